/- Texts for a law of package recall, behind the shared ones, part 1: the law's own contracts and plain words. -/
import Derived.Test.YtfcnombmphophaaH5
import Derived.Test.YtfcnombmphophaaH6

set_option linter.unusedVariables false
set_option maxRecDepth 10000

namespace Go.Proofs.Ytfcnombmphophaa
open Go.RowKit Go.Shelf
def narrow (l : List Sale) (k : Nat) (day : Int) : List Sale := l.set k (withDays (saleOf l k) day day)
theorem narrow_len (l : List Sale) (k : Nat) (day : Int) : (narrow l k day).length = l.length := List.length_set
theorem narrow_at {l : List Sale} {k : Nat} (hk : k < l.length) (day : Int) (j : Nat) : saleOf (narrow l k day) j = if j = k then withDays (saleOf l k) day day else saleOf l j := saleOf_set hk j
theorem narrow_wider {t : Int} {l : List Sale} {k : Nat} {day : Int} (hk : k < l.length) (h1 : (saleOf l k).lo ≤ day) (h2 : day ≤ (saleOf l k).hi) : WiderB t (narrow l k day) t l :=
  ⟨(narrow_len l k day).symm, Int.le_refl _, fun j => by
    rw [narrow_at hk]
    split
    · rename_i e
      rw [e]
      exact ⟨rfl, rfl, rfl, h1, h2⟩
    · exact ⟨rfl, rfl, rfl, Int.le_refl _, Int.le_refl _⟩⟩
theorem narrow_valid {o t : Int} {l : List Sale} {k : Nat} {day : Int} (hv : Valid o t l) (hk : k < l.length) (h1 : (saleOf l k).lo ≤ day) (h2 : day ≤ (saleOf l k).hi) : Valid o t (narrow l k day) := by
  have hs := saleOf_valid hv hk
  refine ⟨hv.o1, hv.o6, hv.t0, hv.t1, by rw [narrow_len]; exact hv.len, fun s hs' => ?_⟩
  rcases List.mem_or_eq_of_mem_set hs' with h | rfl
  · exact hv.ok s h
  · unfold saleOk withDays
    simp [inR]
    omega
theorem key_one : ∀ {ps : List (Nat × Int)} {k : Nat} {x y : Int}, (ps.map (·.1)).Nodup → (k, x) ∈ ps → (k, y) ∈ ps → x = y
  | [], _, _, _, _, h, _ => by cases h
  | p :: ps, k, x, y, hn, h1, h2 => by
    rw [List.map_cons, List.nodup_cons] at hn
    have hno : ∀ z, (p.1, z) ∈ ps → False := fun z hz => hn.1 (List.mem_map.2 ⟨_, hz, rfl⟩)
    rcases List.mem_cons.1 h1 with e1 | m1 <;> rcases List.mem_cons.1 h2 with e2 | m2
    · rw [← e1] at e2
      cases e2
      rfl
    · subst e1
      exact (hno _ m2).elim
    · subst e2
      exact (hno _ m1).elim
    · exact key_one hn.2 m1 m2
theorem narrow_fits {o t : Int} {l : List Sale} {k : Nat} {day : Int} (hv : Valid o t l) (hk : k < l.length) (h1 : (saleOf l k).lo ≤ day) (h2 : day ≤ (saleOf l k).hi) : fitsB t (narrow l k day) = true ↔ DayIn t l k day := by
  rw [fits_tru (narrow_valid hv hk h1 h2)]
  constructor
  · rintro ⟨ps, hp⟩
    refine ⟨ps, (narrow_wider hk h1 h2).tru hp, ?_⟩
    have hm : k ∈ ps.map (·.1) := (tru_iff.1 hp).1.mem_iff.2 (List.mem_range.2 (by rw [narrow_len]; exact hk))
    obtain ⟨p, hpm, rfl⟩ := List.mem_map.1 hm
    have h := tru_mem hp hpm
    rw [narrow_at hk, if_pos rfl] at h
    simp only [withDays] at h
    have e : p.2 = day := by omega
    rw [← e]
    exact hpm
  · rintro ⟨ps, hp, hm⟩
    obtain ⟨a, b⟩ := tru_iff.1 hp
    refine ⟨ps, tru_iff.2 ⟨by rw [narrow_len]; exact a, ?_⟩⟩
    have := go_map (l := l) (l' := narrow l k day) (f := fun p => p) (n := 0) (st' := upd (fun _ => 0) 0 t) (x' := 0) (fun p => ?_) (fun p => by simp) (fun p hpm g1 g2 => ?_) (fun i => Int.le_refl _) (fun p _ hx => by omega) b
    · rwa [List.map_id'] at this
    · rw [narrow_at hk]
      split
      · rename_i e
        rw [e]
        exact ⟨rfl, rfl, rfl⟩
      · exact ⟨rfl, rfl, rfl⟩
    · rw [narrow_at hk]
      split
      · rename_i e
        have e2 : (k, p.2) ∈ ps := by
          rw [← e]
          exact hpm
        have := key_one (a.nodup_iff.2 List.nodup_range) hm e2
        simp only [withDays]
        omega
      · omega
theorem stockR_wider {t : Int} {l l2 : List Sale} (h : WiderB t l2 t l) (ow : Int) : ∀ (pre : List Int) (x : Int), pre.foldl (stepR l2 ow) x = pre.foldl (stepR l ow) x
  | [], _ => rfl
  | n :: pre, x => by
    rw [List.foldl_cons, List.foldl_cons, stockR_wider h ow pre]
    obtain ⟨a, b, c, _, _⟩ := h.at_ n.toNat
    congr 1
    simp only [stepR]
    rw [a, b, c]
theorem isGo_wider {t : Int} {l l2 : List Sale} (h : WiderB t l2 t l) (dys : List Int) : ∀ (ns pre : List Int) (la : Int), isGo t l2 dys pre ns la = true → isGo t l dys pre ns la = true
  | [], _, _, _ => rfl
  | n :: ns, pre, la, hg => by
    unfold isGo mayR at hg ⊢
    simp only [Bool.and_eq_true, decide_eq_true_eq, inR_iff] at hg ⊢
    obtain ⟨a, ⟨b, c, d, e⟩, f⟩ := hg
    obtain ⟨g1, g2, g3, g4, g5⟩ := h.at_ n.toNat
    have hst : stockR t l2 pre (saleOf l2 n.toNat).src = stockR t l pre (saleOf l n.toNat).src := by
      unfold stockR
      rw [stockR_wider h, g1]
    rw [hst, ← g3] at e
    have hll := h.len
    exact ⟨by omega, ⟨b, by omega, d, e⟩, isGo_wider h dys ns _ _ f⟩
theorem truth_wider {t : Int} {l l2 : List Sale} (h : WiderB t l2 t l) {xs ds : List Int} (hg : truthB t l2 xs ds = true) : truthB t l xs ds = true := by
  unfold truthB at hg ⊢
  simp only [Bool.and_eq_true, decide_eq_true_eq] at hg ⊢
  have hll := h.len
  exact ⟨by omega, by omega, isGo_wider h ds xs [] 0 hg.2.2⟩
/-- The days that are tried. -/
def endDay (r : Int × Int) : Nat → Int
  | 0 => r.1
  | 1 => r.2
  | 2 => r.1 - 1
  | _ => r.2 + 1
theorem end_in {o t : Int} {l : List Sale} (hv : Valid o t l) (hF : fitsB t l = true) {k : Nat} (hk : k < l.length) {i : Nat} (hi : i < 2) : DayIn t l k (endDay (whenR t l k) i) ∧ (saleOf l k).lo ≤ endDay (whenR t l k) i ∧ endDay (whenR t l k) i ≤ (saleOf l k).hi := by
  obtain ⟨_, b, c⟩ := when_in hv hF hk
  have key : ∀ y, DayIn t l k y → (saleOf l k).lo ≤ y ∧ y ≤ (saleOf l k).hi := by
    rintro y ⟨ps, hp, hm⟩
    have := tru_mem hp hm
    exact ⟨this.2.1, this.2.2.1⟩
  have h2 : i = 0 ∨ i = 1 := by omega
  rcases h2 with rfl | rfl
  · exact ⟨b, key _ b⟩
  · exact ⟨c, key _ c⟩
theorem end_out {o t : Int} {l : List Sale} (hv : Valid o t l) (hF : fitsB t l = true) {k : Nat} (hk : k < l.length) {i : Nat} (hi : 2 ≤ i) : ¬ DayIn t l k (endDay (whenR t l k) i) := by
  obtain ⟨a, _, _⟩ := when_in hv hF hk
  intro h
  have h1 := a _ h
  match i, hi with
  | 2, _ => simp only [endDay] at h1; omega
  | i + 3, _ => simp only [endDay] at h1; omega
end Go.Proofs.Ytfcnombmphophaa
namespace Go.Proofs.Ytfcnombmphophaa
open Go.RowKit Go.Shelf
noncomputable def opsEn13 : Array Oper := (Try.f9.body.bind (regionOf 13)).getD #[]
def wordsEn13 (pb b off nl c k : Nat) (day lo hi : Int) (ib : Bool) : Words := [fun v _ => v = .int .i64 day, fun v _ => v = .pointer (some ⟨pb, 2, none⟩), fun v _ => v = .slice (some ⟨b, off, none⟩) nl c, fun v _ => v = .int .i64 k, fun v _ => v = .pointer (some ⟨b, off + k * 5, none⟩), fun v _ => v = .pointer (some ⟨b, off + k * 5 + 3, none⟩), fun v _ => v = .pointer (some ⟨b, off + k * 5 + 3, none⟩), fun v _ => v = .int .i64 lo, fun v _ => v = .pointer (some ⟨pb, 2, none⟩), fun v _ => v = .slice (some ⟨b, off, none⟩) nl c, fun v _ => v = .int .i64 k, fun v _ => v = .pointer (some ⟨b, off + k * 5, none⟩), fun v _ => v = .pointer (some ⟨b, off + k * 5 + 3, none⟩), fun v _ => v = .pointer (some ⟨b, off + k * 5 + 3 + 1, none⟩), fun v _ => v = .int .i64 hi, fun v _ => v = .bool ib, fun v _ => v = .bool (!ib)]
theorem okEn13_0 {pb b off nl c k : Nat} {day lo hi : Int} {ib : Bool} {a : Act} {w : World} (t11 : a.eval (.tmp 11) = .pointer (some ⟨pb, 0, none⟩)) (t13 : a.eval (.tmp 13) = .int .i64 k) (t17 : a.eval (.tmp 17) = .int .i64 day) (q2 : w.cell? ⟨pb, 2, none⟩ = some (.slice (some ⟨b, off, none⟩) nl c)) (s3 : w.cell? ⟨b, off + k * 5 + 3, none⟩ = some (.int .i64 lo)) (s4 : w.cell? ⟨b, off + k * 5 + 3 + 1, none⟩ = some (.int .i64 hi)) (hk : k < nl) (hin : inR day lo hi = ib) : OpOk Try.prog opsEn13 (wordsEn13 pb b off nl c k day lo hi ib) 133 a w 0 := by
  refine OpOk.gen rfl (fun a1 w1 H => ?_)
  have e17 : a1.eval (.tmp 17) = .int .i64 day := (H.out 17 (by kernel_rfl)).trans t17
  refine gd_none ?_
  exact OpW.move e17 rfl
theorem okEn13_1 {pb b off nl c k : Nat} {day lo hi : Int} {ib : Bool} {a : Act} {w : World} (t11 : a.eval (.tmp 11) = .pointer (some ⟨pb, 0, none⟩)) (t13 : a.eval (.tmp 13) = .int .i64 k) (t17 : a.eval (.tmp 17) = .int .i64 day) (q2 : w.cell? ⟨pb, 2, none⟩ = some (.slice (some ⟨b, off, none⟩) nl c)) (s3 : w.cell? ⟨b, off + k * 5 + 3, none⟩ = some (.int .i64 lo)) (s4 : w.cell? ⟨b, off + k * 5 + 3 + 1, none⟩ = some (.int .i64 hi)) (hk : k < nl) (hin : inR day lo hi = ib) : OpOk Try.prog opsEn13 (wordsEn13 pb b off nl c k day lo hi ib) 133 a w 1 := by
  refine OpOk.gen rfl (fun a1 w1 H => ?_)
  have e11 : a1.eval (.tmp 11) = .pointer (some ⟨pb, 0, none⟩) := (H.out 11 (by kernel_rfl)).trans t11
  refine gd_none ?_
  exact OpW.field e11 (fa24_2 _) rfl
theorem okEn13_2 {pb b off nl c k : Nat} {day lo hi : Int} {ib : Bool} {a : Act} {w : World} (t11 : a.eval (.tmp 11) = .pointer (some ⟨pb, 0, none⟩)) (t13 : a.eval (.tmp 13) = .int .i64 k) (t17 : a.eval (.tmp 17) = .int .i64 day) (q2 : w.cell? ⟨pb, 2, none⟩ = some (.slice (some ⟨b, off, none⟩) nl c)) (s3 : w.cell? ⟨b, off + k * 5 + 3, none⟩ = some (.int .i64 lo)) (s4 : w.cell? ⟨b, off + k * 5 + 3 + 1, none⟩ = some (.int .i64 hi)) (hk : k < nl) (hin : inR day lo hi = ib) : OpOk Try.prog opsEn13 (wordsEn13 pb b off nl c k day lo hi ib) 133 a w 2 := by
  refine OpOk.gen rfl (fun a1 w1 H => ?_)
  have d1 : a1.eval (.tmp 72) = .pointer (some ⟨pb, 2, none⟩) := H.dep 1 72 rfl (by kernel_rfl)
  refine gd_none ?_
  exact OpW.load d1 (ld22 (H.cell q2)) rfl
theorem okEn13_3 {pb b off nl c k : Nat} {day lo hi : Int} {ib : Bool} {a : Act} {w : World} (t11 : a.eval (.tmp 11) = .pointer (some ⟨pb, 0, none⟩)) (t13 : a.eval (.tmp 13) = .int .i64 k) (t17 : a.eval (.tmp 17) = .int .i64 day) (q2 : w.cell? ⟨pb, 2, none⟩ = some (.slice (some ⟨b, off, none⟩) nl c)) (s3 : w.cell? ⟨b, off + k * 5 + 3, none⟩ = some (.int .i64 lo)) (s4 : w.cell? ⟨b, off + k * 5 + 3 + 1, none⟩ = some (.int .i64 hi)) (hk : k < nl) (hin : inR day lo hi = ib) : OpOk Try.prog opsEn13 (wordsEn13 pb b off nl c k day lo hi ib) 133 a w 3 := by
  refine OpOk.gen rfl (fun a1 w1 H => ?_)
  have e13 : a1.eval (.tmp 13) = .int .i64 k := (H.out 13 (by kernel_rfl)).trans t13
  refine gd_none ?_
  exact OpW.move e13 rfl
theorem okEn13_4 {pb b off nl c k : Nat} {day lo hi : Int} {ib : Bool} {a : Act} {w : World} (t11 : a.eval (.tmp 11) = .pointer (some ⟨pb, 0, none⟩)) (t13 : a.eval (.tmp 13) = .int .i64 k) (t17 : a.eval (.tmp 17) = .int .i64 day) (q2 : w.cell? ⟨pb, 2, none⟩ = some (.slice (some ⟨b, off, none⟩) nl c)) (s3 : w.cell? ⟨b, off + k * 5 + 3, none⟩ = some (.int .i64 lo)) (s4 : w.cell? ⟨b, off + k * 5 + 3 + 1, none⟩ = some (.int .i64 hi)) (hk : k < nl) (hin : inR day lo hi = ib) : OpOk Try.prog opsEn13 (wordsEn13 pb b off nl c k day lo hi ib) 133 a w 4 := by
  refine OpOk.gen rfl (fun a1 w1 H => ?_)
  have d2 : a1.eval (.tmp 73) = .slice (some ⟨b, off, none⟩) nl c := H.dep 2 73 rfl (by kernel_rfl)
  have d3 : a1.eval (.tmp 74) = .int .i64 k := H.dep 3 74 rfl (by kernel_rfl)
  refine gd_none ?_
  exact OpW.index d2 d3 (ix22 hk _) rfl
theorem okEn13_5 {pb b off nl c k : Nat} {day lo hi : Int} {ib : Bool} {a : Act} {w : World} (t11 : a.eval (.tmp 11) = .pointer (some ⟨pb, 0, none⟩)) (t13 : a.eval (.tmp 13) = .int .i64 k) (t17 : a.eval (.tmp 17) = .int .i64 day) (q2 : w.cell? ⟨pb, 2, none⟩ = some (.slice (some ⟨b, off, none⟩) nl c)) (s3 : w.cell? ⟨b, off + k * 5 + 3, none⟩ = some (.int .i64 lo)) (s4 : w.cell? ⟨b, off + k * 5 + 3 + 1, none⟩ = some (.int .i64 hi)) (hk : k < nl) (hin : inR day lo hi = ib) : OpOk Try.prog opsEn13 (wordsEn13 pb b off nl c k day lo hi ib) 133 a w 5 := by
  refine OpOk.gen rfl (fun a1 w1 H => ?_)
  have d4 : a1.eval (.tmp 75) = .pointer (some ⟨b, off + k * 5, none⟩) := H.dep 4 75 rfl (by kernel_rfl)
  refine gd_none ?_
  exact OpW.field d4 (fa73_3 _) rfl
theorem okEn13_6 {pb b off nl c k : Nat} {day lo hi : Int} {ib : Bool} {a : Act} {w : World} (t11 : a.eval (.tmp 11) = .pointer (some ⟨pb, 0, none⟩)) (t13 : a.eval (.tmp 13) = .int .i64 k) (t17 : a.eval (.tmp 17) = .int .i64 day) (q2 : w.cell? ⟨pb, 2, none⟩ = some (.slice (some ⟨b, off, none⟩) nl c)) (s3 : w.cell? ⟨b, off + k * 5 + 3, none⟩ = some (.int .i64 lo)) (s4 : w.cell? ⟨b, off + k * 5 + 3 + 1, none⟩ = some (.int .i64 hi)) (hk : k < nl) (hin : inR day lo hi = ib) : OpOk Try.prog opsEn13 (wordsEn13 pb b off nl c k day lo hi ib) 133 a w 6 := by
  refine OpOk.gen rfl (fun a1 w1 H => ?_)
  have d5 : a1.eval (.tmp 76) = .pointer (some ⟨b, off + k * 5 + 3, none⟩) := H.dep 5 76 rfl (by kernel_rfl)
  refine gd_none ?_
  exact OpW.field d5 (fa71_0 _) rfl
theorem okEn13_7 {pb b off nl c k : Nat} {day lo hi : Int} {ib : Bool} {a : Act} {w : World} (t11 : a.eval (.tmp 11) = .pointer (some ⟨pb, 0, none⟩)) (t13 : a.eval (.tmp 13) = .int .i64 k) (t17 : a.eval (.tmp 17) = .int .i64 day) (q2 : w.cell? ⟨pb, 2, none⟩ = some (.slice (some ⟨b, off, none⟩) nl c)) (s3 : w.cell? ⟨b, off + k * 5 + 3, none⟩ = some (.int .i64 lo)) (s4 : w.cell? ⟨b, off + k * 5 + 3 + 1, none⟩ = some (.int .i64 hi)) (hk : k < nl) (hin : inR day lo hi = ib) : OpOk Try.prog opsEn13 (wordsEn13 pb b off nl c k day lo hi ib) 133 a w 7 := by
  refine OpOk.gen rfl (fun a1 w1 H => ?_)
  have d6 : a1.eval (.tmp 77) = .pointer (some ⟨b, off + k * 5 + 3, none⟩) := H.dep 6 77 rfl (by kernel_rfl)
  refine gd_none ?_
  exact OpW.load d6 (ld3 (H.cell s3)) rfl
theorem okEn13_8 {pb b off nl c k : Nat} {day lo hi : Int} {ib : Bool} {a : Act} {w : World} (t11 : a.eval (.tmp 11) = .pointer (some ⟨pb, 0, none⟩)) (t13 : a.eval (.tmp 13) = .int .i64 k) (t17 : a.eval (.tmp 17) = .int .i64 day) (q2 : w.cell? ⟨pb, 2, none⟩ = some (.slice (some ⟨b, off, none⟩) nl c)) (s3 : w.cell? ⟨b, off + k * 5 + 3, none⟩ = some (.int .i64 lo)) (s4 : w.cell? ⟨b, off + k * 5 + 3 + 1, none⟩ = some (.int .i64 hi)) (hk : k < nl) (hin : inR day lo hi = ib) : OpOk Try.prog opsEn13 (wordsEn13 pb b off nl c k day lo hi ib) 133 a w 8 := by
  refine OpOk.gen rfl (fun a1 w1 H => ?_)
  have e11 : a1.eval (.tmp 11) = .pointer (some ⟨pb, 0, none⟩) := (H.out 11 (by kernel_rfl)).trans t11
  refine gd_none ?_
  exact OpW.field e11 (fa24_2 _) rfl
theorem okEn13_9 {pb b off nl c k : Nat} {day lo hi : Int} {ib : Bool} {a : Act} {w : World} (t11 : a.eval (.tmp 11) = .pointer (some ⟨pb, 0, none⟩)) (t13 : a.eval (.tmp 13) = .int .i64 k) (t17 : a.eval (.tmp 17) = .int .i64 day) (q2 : w.cell? ⟨pb, 2, none⟩ = some (.slice (some ⟨b, off, none⟩) nl c)) (s3 : w.cell? ⟨b, off + k * 5 + 3, none⟩ = some (.int .i64 lo)) (s4 : w.cell? ⟨b, off + k * 5 + 3 + 1, none⟩ = some (.int .i64 hi)) (hk : k < nl) (hin : inR day lo hi = ib) : OpOk Try.prog opsEn13 (wordsEn13 pb b off nl c k day lo hi ib) 133 a w 9 := by
  refine OpOk.gen rfl (fun a1 w1 H => ?_)
  have d8 : a1.eval (.tmp 79) = .pointer (some ⟨pb, 2, none⟩) := H.dep 8 79 rfl (by kernel_rfl)
  refine gd_none ?_
  exact OpW.load d8 (ld22 (H.cell q2)) rfl
theorem okEn13_10 {pb b off nl c k : Nat} {day lo hi : Int} {ib : Bool} {a : Act} {w : World} (t11 : a.eval (.tmp 11) = .pointer (some ⟨pb, 0, none⟩)) (t13 : a.eval (.tmp 13) = .int .i64 k) (t17 : a.eval (.tmp 17) = .int .i64 day) (q2 : w.cell? ⟨pb, 2, none⟩ = some (.slice (some ⟨b, off, none⟩) nl c)) (s3 : w.cell? ⟨b, off + k * 5 + 3, none⟩ = some (.int .i64 lo)) (s4 : w.cell? ⟨b, off + k * 5 + 3 + 1, none⟩ = some (.int .i64 hi)) (hk : k < nl) (hin : inR day lo hi = ib) : OpOk Try.prog opsEn13 (wordsEn13 pb b off nl c k day lo hi ib) 133 a w 10 := by
  refine OpOk.gen rfl (fun a1 w1 H => ?_)
  have e13 : a1.eval (.tmp 13) = .int .i64 k := (H.out 13 (by kernel_rfl)).trans t13
  refine gd_none ?_
  exact OpW.move e13 rfl
theorem okEn13_11 {pb b off nl c k : Nat} {day lo hi : Int} {ib : Bool} {a : Act} {w : World} (t11 : a.eval (.tmp 11) = .pointer (some ⟨pb, 0, none⟩)) (t13 : a.eval (.tmp 13) = .int .i64 k) (t17 : a.eval (.tmp 17) = .int .i64 day) (q2 : w.cell? ⟨pb, 2, none⟩ = some (.slice (some ⟨b, off, none⟩) nl c)) (s3 : w.cell? ⟨b, off + k * 5 + 3, none⟩ = some (.int .i64 lo)) (s4 : w.cell? ⟨b, off + k * 5 + 3 + 1, none⟩ = some (.int .i64 hi)) (hk : k < nl) (hin : inR day lo hi = ib) : OpOk Try.prog opsEn13 (wordsEn13 pb b off nl c k day lo hi ib) 133 a w 11 := by
  refine OpOk.gen rfl (fun a1 w1 H => ?_)
  have d9 : a1.eval (.tmp 80) = .slice (some ⟨b, off, none⟩) nl c := H.dep 9 80 rfl (by kernel_rfl)
  have d10 : a1.eval (.tmp 81) = .int .i64 k := H.dep 10 81 rfl (by kernel_rfl)
  refine gd_none ?_
  exact OpW.index d9 d10 (ix22 hk _) rfl
theorem okEn13_12 {pb b off nl c k : Nat} {day lo hi : Int} {ib : Bool} {a : Act} {w : World} (t11 : a.eval (.tmp 11) = .pointer (some ⟨pb, 0, none⟩)) (t13 : a.eval (.tmp 13) = .int .i64 k) (t17 : a.eval (.tmp 17) = .int .i64 day) (q2 : w.cell? ⟨pb, 2, none⟩ = some (.slice (some ⟨b, off, none⟩) nl c)) (s3 : w.cell? ⟨b, off + k * 5 + 3, none⟩ = some (.int .i64 lo)) (s4 : w.cell? ⟨b, off + k * 5 + 3 + 1, none⟩ = some (.int .i64 hi)) (hk : k < nl) (hin : inR day lo hi = ib) : OpOk Try.prog opsEn13 (wordsEn13 pb b off nl c k day lo hi ib) 133 a w 12 := by
  refine OpOk.gen rfl (fun a1 w1 H => ?_)
  have d11 : a1.eval (.tmp 82) = .pointer (some ⟨b, off + k * 5, none⟩) := H.dep 11 82 rfl (by kernel_rfl)
  refine gd_none ?_
  exact OpW.field d11 (fa73_3 _) rfl
theorem okEn13_13 {pb b off nl c k : Nat} {day lo hi : Int} {ib : Bool} {a : Act} {w : World} (t11 : a.eval (.tmp 11) = .pointer (some ⟨pb, 0, none⟩)) (t13 : a.eval (.tmp 13) = .int .i64 k) (t17 : a.eval (.tmp 17) = .int .i64 day) (q2 : w.cell? ⟨pb, 2, none⟩ = some (.slice (some ⟨b, off, none⟩) nl c)) (s3 : w.cell? ⟨b, off + k * 5 + 3, none⟩ = some (.int .i64 lo)) (s4 : w.cell? ⟨b, off + k * 5 + 3 + 1, none⟩ = some (.int .i64 hi)) (hk : k < nl) (hin : inR day lo hi = ib) : OpOk Try.prog opsEn13 (wordsEn13 pb b off nl c k day lo hi ib) 133 a w 13 := by
  refine OpOk.gen rfl (fun a1 w1 H => ?_)
  have d12 : a1.eval (.tmp 83) = .pointer (some ⟨b, off + k * 5 + 3, none⟩) := H.dep 12 83 rfl (by kernel_rfl)
  refine gd_none ?_
  exact OpW.field d12 (fa71_1 _) rfl
theorem okEn13_14 {pb b off nl c k : Nat} {day lo hi : Int} {ib : Bool} {a : Act} {w : World} (t11 : a.eval (.tmp 11) = .pointer (some ⟨pb, 0, none⟩)) (t13 : a.eval (.tmp 13) = .int .i64 k) (t17 : a.eval (.tmp 17) = .int .i64 day) (q2 : w.cell? ⟨pb, 2, none⟩ = some (.slice (some ⟨b, off, none⟩) nl c)) (s3 : w.cell? ⟨b, off + k * 5 + 3, none⟩ = some (.int .i64 lo)) (s4 : w.cell? ⟨b, off + k * 5 + 3 + 1, none⟩ = some (.int .i64 hi)) (hk : k < nl) (hin : inR day lo hi = ib) : OpOk Try.prog opsEn13 (wordsEn13 pb b off nl c k day lo hi ib) 133 a w 14 := by
  refine OpOk.gen rfl (fun a1 w1 H => ?_)
  have d13 : a1.eval (.tmp 84) = .pointer (some ⟨b, off + k * 5 + 3 + 1, none⟩) := H.dep 13 84 rfl (by kernel_rfl)
  refine gd_none ?_
  exact OpW.load d13 (ld3 (H.cell s4)) rfl
theorem okEn13_15 {pb b off nl c k : Nat} {day lo hi : Int} {ib : Bool} {a : Act} {w : World} (t11 : a.eval (.tmp 11) = .pointer (some ⟨pb, 0, none⟩)) (t13 : a.eval (.tmp 13) = .int .i64 k) (t17 : a.eval (.tmp 17) = .int .i64 day) (q2 : w.cell? ⟨pb, 2, none⟩ = some (.slice (some ⟨b, off, none⟩) nl c)) (s3 : w.cell? ⟨b, off + k * 5 + 3, none⟩ = some (.int .i64 lo)) (s4 : w.cell? ⟨b, off + k * 5 + 3 + 1, none⟩ = some (.int .i64 hi)) (hk : k < nl) (hin : inR day lo hi = ib) : OpOk Try.prog opsEn13 (wordsEn13 pb b off nl c k day lo hi ib) 133 a w 15 := by
  refine OpOk.gen rfl (fun a1 w1 H => ?_)
  have d0 : a1.eval (.tmp 71) = .int .i64 day := H.dep 0 71 rfl (by kernel_rfl)
  have d7 : a1.eval (.tmp 78) = .int .i64 lo := H.dep 7 78 rfl (by kernel_rfl)
  have d14 : a1.eval (.tmp 85) = .int .i64 hi := H.dep 14 85 rfl (by kernel_rfl)
  refine gd_none ?_
  exact OpW.call (vs := #[.int .i64 day, .int .i64 lo, .int .i64 hi]) (enters_of Try.func31 (by kernel_rfl) rfl) (by simp [d0, d7, d14]) (by rw [← hin]; exact (in_any day lo hi w1).mono fun e w2 h => ⟨_, h.1, rfl, by rw [← h.2]; exact Below.refl _ _⟩)
theorem okEn13_16 {pb b off nl c k : Nat} {day lo hi : Int} {ib : Bool} {a : Act} {w : World} (t11 : a.eval (.tmp 11) = .pointer (some ⟨pb, 0, none⟩)) (t13 : a.eval (.tmp 13) = .int .i64 k) (t17 : a.eval (.tmp 17) = .int .i64 day) (q2 : w.cell? ⟨pb, 2, none⟩ = some (.slice (some ⟨b, off, none⟩) nl c)) (s3 : w.cell? ⟨b, off + k * 5 + 3, none⟩ = some (.int .i64 lo)) (s4 : w.cell? ⟨b, off + k * 5 + 3 + 1, none⟩ = some (.int .i64 hi)) (hk : k < nl) (hin : inR day lo hi = ib) : OpOk Try.prog opsEn13 (wordsEn13 pb b off nl c k day lo hi ib) 133 a w 16 := by
  refine OpOk.gen rfl (fun a1 w1 H => ?_)
  have d15 : a1.eval (.tmp 86) = .bool ib := H.dep 15 86 rfl (by kernel_rfl)
  refine gd_none ?_
  exact OpW.un d15 (not4 _ _) rfl
theorem regionEn13 {F : Fence} {n : Nat} (hF : WideF F Try.prog) {Q : Exit → Act → World → Prop} {pb b off nl c k : Nat} {day lo hi : Int} {ib : Bool} {a : Act} {w : World} (hsz : a.tmps.size = 133)
    (t11 : a.eval (.tmp 11) = .pointer (some ⟨pb, 0, none⟩)) (t13 : a.eval (.tmp 13) = .int .i64 k) (t17 : a.eval (.tmp 17) = .int .i64 day) (q2 : w.cell? ⟨pb, 2, none⟩ = some (.slice (some ⟨b, off, none⟩) nl c)) (s3 : w.cell? ⟨b, off + k * 5 + 3, none⟩ = some (.int .i64 lo)) (s4 : w.cell? ⟨b, off + k * 5 + 3 + 1, none⟩ = some (.int .i64 hi)) (hk : k < nl) (hin : inR day lo hi = ib)
    (hK : ∀ (a' : Act) (w' : World), a'.tmps.size = 133 → a'.defers = a.defers → Below w.heap.size w w' → (∀ e, ndstB opsEn13 e = true → a'.eval (.tmp e) = a.eval (.tmp e)) → (∀ (j d : Nat), (opsEn13[j]?).bind (·.dst) = some d → (wordsEn13 pb b off nl c k day lo hi ib).at_ j (a'.eval (.tmp d)) w') → Q .normal a' w') :
    (Code.region 13 opsEn13 true).wpIn F n Try.prog Q a w := by
  refine region_S (wordsEn13 pb b off nl c k day lo hi ib) 133 hF (by kernel_rfl) Try.mixed (by kernel_rfl) (by kernel_rfl) ?_ hsz 17 (by kernel_rfl) ?_ hK
  · exact ⟨(fun _ _ _ h _ => h), (fun _ _ _ h _ => h), (fun _ _ _ h _ => h), (fun _ _ _ h _ => h), (fun _ _ _ h _ => h), (fun _ _ _ h _ => h), (fun _ _ _ h _ => h), (fun _ _ _ h _ => h), (fun _ _ _ h _ => h), (fun _ _ _ h _ => h), (fun _ _ _ h _ => h), (fun _ _ _ h _ => h), (fun _ _ _ h _ => h), (fun _ _ _ h _ => h), (fun _ _ _ h _ => h), (fun _ _ _ h _ => h), (fun _ _ _ h _ => h), trivial⟩
  · exact ⟨⟨⟨⟨⟨⟨⟨⟨⟨⟨⟨⟨⟨⟨⟨⟨⟨trivial, okEn13_0 t11 t13 t17 q2 s3 s4 hk hin⟩, okEn13_1 t11 t13 t17 q2 s3 s4 hk hin⟩, okEn13_2 t11 t13 t17 q2 s3 s4 hk hin⟩, okEn13_3 t11 t13 t17 q2 s3 s4 hk hin⟩, okEn13_4 t11 t13 t17 q2 s3 s4 hk hin⟩, okEn13_5 t11 t13 t17 q2 s3 s4 hk hin⟩, okEn13_6 t11 t13 t17 q2 s3 s4 hk hin⟩, okEn13_7 t11 t13 t17 q2 s3 s4 hk hin⟩, okEn13_8 t11 t13 t17 q2 s3 s4 hk hin⟩, okEn13_9 t11 t13 t17 q2 s3 s4 hk hin⟩, okEn13_10 t11 t13 t17 q2 s3 s4 hk hin⟩, okEn13_11 t11 t13 t17 q2 s3 s4 hk hin⟩, okEn13_12 t11 t13 t17 q2 s3 s4 hk hin⟩, okEn13_13 t11 t13 t17 q2 s3 s4 hk hin⟩, okEn13_14 t11 t13 t17 q2 s3 s4 hk hin⟩, okEn13_15 t11 t13 t17 q2 s3 s4 hk hin⟩, okEn13_16 t11 t13 t17 q2 s3 s4 hk hin⟩
noncomputable def opsEn0 : Array Oper := (Try.f9.body.bind (regionOf 0)).getD #[]
noncomputable def opsEn1 : Array Oper := (Try.f9.body.bind (regionOf 1)).getD #[]
noncomputable def opsEn2 : Array Oper := (Try.f9.body.bind (regionOf 2)).getD #[]
noncomputable def opsEn3 : Array Oper := (Try.f9.body.bind (regionOf 3)).getD #[]
noncomputable def opsEn4 : Array Oper := (Try.f9.body.bind (regionOf 4)).getD #[]
noncomputable def opsEn5 : Array Oper := (Try.f9.body.bind (regionOf 5)).getD #[]
noncomputable def opsEn6 : Array Oper := (Try.f9.body.bind (regionOf 6)).getD #[]
noncomputable def opsEn7 : Array Oper := (Try.f9.body.bind (regionOf 7)).getD #[]
noncomputable def opsEn8 : Array Oper := (Try.f9.body.bind (regionOf 8)).getD #[]
noncomputable def opsEn9 : Array Oper := (Try.f9.body.bind (regionOf 9)).getD #[]
noncomputable def opsEn10 : Array Oper := (Try.f9.body.bind (regionOf 10)).getD #[]
noncomputable def opsEn11 : Array Oper := (Try.f9.body.bind (regionOf 11)).getD #[]
noncomputable def opsEn12 : Array Oper := (Try.f9.body.bind (regionOf 12)).getD #[]
noncomputable def opsEn14 : Array Oper := (Try.f9.body.bind (regionOf 14)).getD #[]
noncomputable def opsEn15 : Array Oper := (Try.f9.body.bind (regionOf 15)).getD #[]
noncomputable def opsEn16 : Array Oper := (Try.f9.body.bind (regionOf 16)).getD #[]
noncomputable def opsEn17 : Array Oper := (Try.f9.body.bind (regionOf 17)).getD #[]
noncomputable def opsEn18 : Array Oper := (Try.f9.body.bind (regionOf 18)).getD #[]
noncomputable def opsEn19 : Array Oper := (Try.f9.body.bind (regionOf 19)).getD #[]
noncomputable def opsEn20 : Array Oper := (Try.f9.body.bind (regionOf 20)).getD #[]
noncomputable def opsEn21 : Array Oper := (Try.f9.body.bind (regionOf 21)).getD #[]
noncomputable def opsEn22 : Array Oper := (Try.f9.body.bind (regionOf 22)).getD #[]
noncomputable def en_d : Code := (.seq (.region 22 opsEn22 false) .ret)
noncomputable def en_b : Code := (.seq (.region 5 opsEn5 false) (.seq (.region 6 opsEn6 false) (.seq (.seq (.region 7 opsEn7 false) (.cond (.tmp 52) (.seq (.region 8 opsEn8 false) .ret) .skip)) (.seq (.seq (.region 9 opsEn9 false) (.block 0 (.loop (.seq (.seq (.region 10 opsEn10 false) (.cond (.tmp 54) .skip (.exit 0))) (.seq (.block 1 (.seq (.region 12 opsEn12 false) (.seq (.seq (.region 13 opsEn13 true) (.cond (.tmp 87) (.seq (.seq (.region 14 opsEn14 false) (.cond (.tmp 89) (.seq (.region 15 opsEn15 false) .ret) .skip)) (.exit 1)) .skip)) (.seq (.region 16 opsEn16 false) (.seq (.region 17 opsEn17 false) (.seq (.region 18 opsEn18 false) (.seq (.region 19 opsEn19 false) (.seq (.region 20 opsEn20 false) (.cond (.tmp 131) (.seq (.region 21 opsEn21 false) .ret) .skip))))))))) (.region 11 opsEn11 false)))))) en_d))))
noncomputable def code9 : Code := (.seq (.region 0 opsEn0 false) (.seq (.region 1 opsEn1 false) (.seq (.region 2 opsEn2 false) (.seq (.seq (.region 3 opsEn3 false) (.cond (.tmp 37) (.seq (.region 4 opsEn4 false) .ret) .skip)) en_b))))
theorem body9 : Try.f9.body = some code9 := by kernel_rfl
theorem end_cell {w : World} {p : Nat} {x y : Int} (h : Whole w p 3 #[.int .i64 x, .int .i64 y, .int .i64 (x - 1), .int .i64 (y + 1)]) {i : Nat} (hi : i < 4) : w.cell? ⟨p, 0 + i, none⟩ = some (.int .i64 (endDay (x, y) i)) := by
  rw [Nat.zero_add]
  have hc := h.cell i
  have h4 : i = 0 ∨ i = 1 ∨ i = 2 ∨ i = 3 := by omega
  rcases h4 with rfl | rfl | rfl | rfl <;> exact hc
/-- The frame in the loop; the memory. -/
def EnF (pb p1 k i : Nat) (a : Act) : Prop := a.tmps.size = 133 ∧ a.defers = [] ∧ a.eval (.tmp 11) = .pointer (some ⟨pb, 0, none⟩) ∧ a.eval (.tmp 13) = .int .i64 k ∧ a.eval (.tmp 14) = .pointer (some ⟨p1, 0, none⟩) ∧ a.eval (.tmp 16) = .int .i64 i
def EnM (W : World) (pb p1 : Nat) (o t : Int) (A : Option Addr) (l : List Sale) (c : Nat) (r : Int × Int) (W' : World) : Prop := Below W.heap.size W W' ∧ Whole W' pb 24 #[.int .i64 o, .int .i64 t, .slice A l.length c] ∧ Whole W' p1 46 #[.int .i64 r.1, .int .i64 r.2] ∧ SalesAt W' W'.heap.size A l
section
variable {o t : Int} {A : Option Addr} {l : List Sale} {c pb p1 k i : Nat} {a1 : Act} {W W1 : World} {Q : Exit → Act → World → Prop}
theorem en11 (hi : i < 4) (hf : EnF pb p1 k i a1) (hQ : ∀ a', EnF pb p1 k (i + 1) a' → Q .normal a' W) : (Code.region 11 opsEn11 false).wpIn Fence.wide 5 Try.prog Q a1 W := by
  obtain ⟨hz_a1, hd_a1, u11, u13, u14, u16⟩ := hf
  refine region_p 3 ?_
  intro K hK
  refine ListK.move (i := 0) (v := .int .i64 i) rfl (by simp [u16]) ?_
  refine ListK.bin (i := 1) (u := .int .i64 i) (u' := .int .i64 1) (v := .int .i64 (i + 1)) rfl (by simp [hz_a1]) (by simp) (add3 (by omega) (by omega) _) ?_
  refine ListK.assign (i := 2) (v := .int .i64 ((i + 1 : Nat) : Int)) rfl (by simp [hz_a1]) ?_
  skip
  exact ListK.done (hK _ _ (hQ _ ⟨(by simp only [size_put, hz_a1]), (by simp only [defers_put, hd_a1]), (by simp [u11]), (by simp [u13]), (by simp [u14]), (by simp [hz_a1])⟩))
set_option maxHeartbeats 8000000 in
/-- A round. -/
theorem en12 (hi4 : i < 4) (hk : k < l.length) (hv : Valid o t l) (hF : fitsB t l = true) (hf : EnF pb p1 k i a1) (hm : EnM W pb p1 o t A l c (whenR t l k) W1)
    (hQ1 : ∀ a' W', EnF pb p1 k i a' → EnM W pb p1 o t A l c (whenR t l k) W' → Q .normal a' W')
    (hQ2 : ∀ a' W', EnF pb p1 k i a' → EnM W pb p1 o t A l c (whenR t l k) W' → Q (.exit 1) a' W') :
    (Code.seq (.region 12 opsEn12 false) (.seq (.seq (.region 13 opsEn13 true) (.cond (.tmp 87) (.seq (.seq (.region 14 opsEn14 false) (.cond (.tmp 89) (.seq (.region 15 opsEn15 false) .ret) .skip)) (.exit 1)) .skip)) (.seq (.region 16 opsEn16 false) (.seq (.region 17 opsEn17 false) (.seq (.region 18 opsEn18 false) (.seq (.region 19 opsEn19 false) (.seq (.region 20 opsEn20 false) (.cond (.tmp 131) (.seq (.region 21 opsEn21 false) .ret) .skip)))))))).wpIn Fence.wide 5 Try.prog Q a1 W1 := by
  obtain ⟨hz_a1, hd_a1, u11, u13, u14, u16⟩ := hf
  obtain ⟨hB1, wb, wr, hs⟩ := hm
  have hl8 := hv.len
  have hvt := hv.t0
  have hvt1 := hv.t1
  have hmm : ∀ s, s ∈ l → 0 ≤ s.many ∧ s.many ≤ 1000 := fun s hs => by
    have := saleOk_facts (hv.ok s hs)
    omega
  have hsv := saleOf_valid hv hk
  have hwb := when_bounds hv hF hk
  obtain ⟨b3, hb3⟩ : ∃ b, W.heap.size = b := ⟨_, rfl⟩
  rw [hb3] at hB1
  have hin2 := fun h : i < 2 => end_in hv hF hk h
  have hout2 := fun h : 2 ≤ i => end_out hv hF hk h
  generalize whenR t l k = r at *
  obtain ⟨x, y⟩ := r
  simp only at hwb wr
  have hal := (Below.refl W1.heap.size W1).alloc (Nat.le_refl _) (.cells #[.int .i64 x, .int .i64 y, .int .i64 (x - 1), .int .i64 (y + 1)] 3)
  have wp := Whole.new W1 3 #[.int .i64 x, .int .i64 y, .int .i64 (x - 1), .int .i64 (y + 1)]
  have hec := end_cell wp hi4
  obtain ⟨day, hday⟩ : ∃ d, endDay (x, y) i = d := ⟨_, rfl⟩
  rw [hday] at hin2 hout2 hec
  have hdb : -1 ≤ day ∧ day ≤ 101 := by
    rw [← hday]
    have h4 : i = 0 ∨ i = 1 ∨ i = 2 ∨ i = 3 := by omega
    rcases h4 with rfl | rfl | rfl | rfl <;> simp only [endDay] <;> omega
  have hecn : (W1.alloc (.cells #[.int .i64 x, .int .i64 y, .int .i64 (x - 1), .int .i64 (y + 1)] 3)).cell? ⟨W1.heap.size, 0 + i, none⟩ = some (.int .i64 day) := hec
  refine wpIn_seq (region_p 15 ?_)
  intro K hK
  refine ListK.field (i := 0) (u := .pointer (some ⟨p1, 0, none⟩)) (v := .pointer (some ⟨p1, 0, none⟩)) rfl (by simp [u14]) (fa46_0 _) ?_
  refine ListK.load (i := 1) (p := ⟨p1, 0, none⟩) (v := .int .i64 x) rfl (by simp [hz_a1]) (ld3 (wr.cell 0)) ?_
  refine ListK.field (i := 2) (u := .pointer (some ⟨p1, 0, none⟩)) (v := .pointer (some ⟨p1, 1, none⟩)) rfl (by simp [u14]) (fa46_1 _) ?_
  refine ListK.load (i := 3) (p := ⟨p1, 1, none⟩) (v := .int .i64 y) rfl (by simp [hz_a1]) (ld3 (wr.cell 1)) ?_
  refine ListK.field (i := 4) (u := .pointer (some ⟨p1, 0, none⟩)) (v := .pointer (some ⟨p1, 0, none⟩)) rfl (by simp [u14]) (fa46_0 _) ?_
  refine ListK.load (i := 5) (p := ⟨p1, 0, none⟩) (v := .int .i64 x) rfl (by simp [hz_a1]) (ld3 (wr.cell 0)) ?_
  refine ListK.bin (i := 6) (u := .int .i64 x) (u' := .int .i64 1) (v := .int .i64 (x - 1)) rfl (by simp [hz_a1]) (by simp) (sub3 (by omega) (by omega) _) ?_
  refine ListK.field (i := 7) (u := .pointer (some ⟨p1, 0, none⟩)) (v := .pointer (some ⟨p1, 1, none⟩)) rfl (by simp [u14]) (fa46_1 _) ?_
  refine ListK.load (i := 8) (p := ⟨p1, 1, none⟩) (v := .int .i64 y) rfl (by simp [hz_a1]) (ld3 (wr.cell 1)) ?_
  refine ListK.bin (i := 9) (u := .int .i64 y) (u' := .int .i64 1) (v := .int .i64 (y + 1)) rfl (by simp [hz_a1]) (by simp) (add3 (by omega) (by omega) _) ?_
  refine ListK.bsl (i := 10) (ps := #[(0, .int .i64 x), (1, .int .i64 y), (2, .int .i64 (x - 1)), (3, .int .i64 (y + 1))]) (v := .slice (some ⟨W1.heap.size, 0, none⟩) 4 4) rfl (by simp [hz_a1]) (bs25_4 _ _ _ _ _) ?_
  refine ListK.move (i := 11) (v := .int .i64 i) rfl (by simp [u16]) ?_
  refine ListK.index (i := 12) (u := .slice (some ⟨W1.heap.size, 0, none⟩) 4 4) (u' := .int .i64 i) (v := .pointer (some ⟨W1.heap.size, 0 + i, none⟩)) rfl (by simp [hz_a1]) (by simp [hz_a1]) (ix25o hi4 _) ?_
  refine ListK.load (i := 13) (p := ⟨W1.heap.size, 0 + i, none⟩) (v := .int .i64 day) rfl (by simp [hz_a1]) (ld3 (hecn)) ?_
  refine ListK.assign (i := 14) (v := .int .i64 day) rfl (by simp [hz_a1]) ?_
  refine ListK.done (hK _ _ ?_)
  clear hK K
  have hb_t1 := hal
  generalize W1.alloc (.cells #[.int .i64 x, .int .i64 y, .int .i64 (x - 1), .int .i64 (y + 1)] 3) = W2 at *
  have hL_t1 := hB1.trans (hb_t1.mono (by have := hB1.size; omega))
  replace hs := (hs.below hb_t1 (Nat.le_refl _)).more hb_t1.size
  replace wb := wb.below hb_t1 wb.lt
  replace wr := wr.below hb_t1 wr.lt
  replace hB1 := hL_t1
  clear hec hecn wp hal
  generalize hA : Act.put _ _ _ = a2
  have hz_a2 : a2.tmps.size = 133 := by rw [← hA]; simp only [size_put, hz_a1]
  have v11 : a2.eval (.tmp 11) = .pointer (some ⟨pb, 0, none⟩) := by rw [← hA]; exact (by simp [u11])
  have v13 : a2.eval (.tmp 13) = .int .i64 k := by rw [← hA]; exact (by simp [u13])
  have v14 : a2.eval (.tmp 14) = .pointer (some ⟨p1, 0, none⟩) := by rw [← hA]; exact (by simp [u14])
  have v16 : a2.eval (.tmp 16) = .int .i64 i := by rw [← hA]; exact (by simp [u16])
  have v17 : a2.eval (.tmp 17) = .int .i64 day := by rw [← hA]; exact (by simp [hz_a1])
  have hd_a2 : a2.defers = [] := by rw [← hA]; simp only [defers_put, hd_a1]
  clear hA
  obtain ⟨b, off, e, hbB, s0, s1, s2, s3, s4⟩ := sale_cells hs hk
  subst e
  cases hin : inR day (saleOf l k).lo (saleOf l k).hi with
  | false =>
    have hi2 : 2 ≤ i := by
      by_cases h : i < 2
      · have := hin2 h
        rw [inR_not] at hin
        omega
      · omega
    refine wpIn_seq (wpIn_seq (regionEn13 (wideF_plain _) hz_a2 v11 v13 v17 (wb.cell 2) s3 s4 hk hin ?_))
    intro a3 W3 hz_a3 hd_t2 hb_t2 hr_t2 hw_t2
    have x11 : a3.eval (.tmp 11) = .pointer (some ⟨pb, 0, none⟩) := (hr_t2 11 (by kernel_rfl)).trans v11
    have x13 : a3.eval (.tmp 13) = .int .i64 k := (hr_t2 13 (by kernel_rfl)).trans v13
    have x14 : a3.eval (.tmp 14) = .pointer (some ⟨p1, 0, none⟩) := (hr_t2 14 (by kernel_rfl)).trans v14
    have x16 : a3.eval (.tmp 16) = .int .i64 i := (hr_t2 16 (by kernel_rfl)).trans v16
    have x17 : a3.eval (.tmp 17) = .int .i64 day := (hr_t2 17 (by kernel_rfl)).trans v17
    have x87 : a3.eval (.tmp 87) = .bool true := hw_t2 16 87 (by kernel_rfl)
    have hd_a3 : a3.defers = [] := hd_t2.trans hd_a2
    have hL_t2 := hB1.trans (hb_t2.mono (by have := hB1.size; omega))
    replace hs := (hs.below hb_t2 (Nat.le_refl _)).more hb_t2.size
    replace wb := wb.below hb_t2 wb.lt
    replace wr := wr.below hb_t2 wr.lt
    replace hB1 := hL_t2
    clear hr_t2 hw_t2 hd_t2
    refine wpIn_cond (t := true) x87 ?_
    refine wpIn_seq (wpIn_seq (region_p 2 ?_))
    intro K hK
    refine ListK.move (i := 0) (v := .int .i64 i) rfl (by simp [x16]) ?_
    refine ListK.bin (i := 1) (u := .int .i64 i) (u' := .int .i64 2) (v := .bool false) rfl (by simp [hz_a3]) (by simp) (lssF (by omega) _) ?_
    refine ListK.done (hK _ _ ?_)
    clear hK K
    refine wpIn_cond (t := false) (by simp [hz_a3]) (wpIn_skip ?_)
    refine wpIn_exit ?_
    exact hQ2 _ _ ⟨(by simp only [size_put, hz_a3]), (by simp only [defers_put, hd_a3]), (by simp [x11]), (by simp [x13]), (by simp [x14]), (by simp [x16])⟩ ⟨by rw [hb3]; exact hB1, wb, wr, hs⟩
  | true =>
    have hinr := inR_iff.1 hin
    refine wpIn_seq (wpIn_seq (regionEn13 (wideF_plain _) hz_a2 v11 v13 v17 (wb.cell 2) s3 s4 hk hin ?_))
    intro a3 W3 hz_a3 hd_t2 hb_t2 hr_t2 hw_t2
    have x11 : a3.eval (.tmp 11) = .pointer (some ⟨pb, 0, none⟩) := (hr_t2 11 (by kernel_rfl)).trans v11
    have x13 : a3.eval (.tmp 13) = .int .i64 k := (hr_t2 13 (by kernel_rfl)).trans v13
    have x14 : a3.eval (.tmp 14) = .pointer (some ⟨p1, 0, none⟩) := (hr_t2 14 (by kernel_rfl)).trans v14
    have x16 : a3.eval (.tmp 16) = .int .i64 i := (hr_t2 16 (by kernel_rfl)).trans v16
    have x17 : a3.eval (.tmp 17) = .int .i64 day := (hr_t2 17 (by kernel_rfl)).trans v17
    have x87 : a3.eval (.tmp 87) = .bool false := hw_t2 16 87 (by kernel_rfl)
    have hd_a3 : a3.defers = [] := hd_t2.trans hd_a2
    have hL_t2 := hB1.trans (hb_t2.mono (by have := hB1.size; omega))
    replace hs := (hs.below hb_t2 (Nat.le_refl _)).more hb_t2.size
    replace wb := wb.below hb_t2 wb.lt
    replace wr := wr.below hb_t2 wr.lt
    replace hB1 := hL_t2
    clear hr_t2 hw_t2 hd_t2
    refine wpIn_cond (t := false) x87 (wpIn_skip ?_)
    show (Code.seq _ _).wpIn _ _ _ _ _ _
    refine wpIn_seq (region_p 3 ?_)
    intro K hK
    refine ListK.load (i := 0) (p := ⟨pb, 0, none⟩) (v := .agg #[.int .i64 o, .int .i64 t, .slice (some ⟨b, off, none⟩) l.length c]) rfl (by simp [x11]) (ld24 ⟨wb.cell 0, wb.cell 1, wb.cell 2⟩) ?_
    refine ListK.alloc (i := 1) rfl (al24 W3) ?_
    refine ListK.store (i := 2) (u := .pointer (some ⟨W3.heap.size, 0, none⟩)) (u' := .agg #[.int .i64 o, .int .i64 t, .slice (some ⟨b, off, none⟩) l.length c]) rfl (by simp [hz_a3]) (by simp [hz_a3]) (st24n W3 o t (some ⟨b, off, none⟩) l.length c) ?_
    refine ListK.done (hK _ _ ?_)
    clear hK K
    have wx := Whole.new W3 24 #[.int .i64 o, .int .i64 t, .slice (some ⟨b, off, none⟩) l.length c]
    have hbx : Below W3.heap.size W3 (W3.alloc (.cells #[.int .i64 o, .int .i64 t, .slice (some ⟨b, off, none⟩) l.length c] 24)) := (Below.refl _ _).alloc (Nat.le_refl _) _
    have hW3 := hB1.size
    replace hB1 := hB1.trans (hbx.mono (by omega))
    have hpb := wb.lt
    have hpr := wr.lt
    replace wb := wb.below hbx wb.lt
    replace wr := wr.below hbx wr.lt
    have hbl : b < W3.heap.size := by
      obtain ⟨b', o', e', hlt', _⟩ := hs k _ (List.getElem?_eq_getElem hk)
      cases e'
      exact hlt'
    have hsB : SalesAt (W3.alloc (.cells #[.int .i64 o, .int .i64 t, .slice (some ⟨b, off, none⟩) l.length c] 24)) W3.heap.size (some ⟨b, off, none⟩) l := hs.below hbx (Nat.le_refl _)
    clear hs
    obtain ⟨px, hpx⟩ : ∃ p, W3.heap.size = p := ⟨_, rfl⟩
    have hb3x : b3 ≤ px := by omega
    rw [hpx] at wx hsB hpb hpr hbl
    simp only [hpx]
    generalize W3.alloc (.cells #[.int .i64 o, .int .i64 t, .slice (some ⟨b, off, none⟩) l.length c] 24) = W4 at *
    generalize hA : Act.put _ _ _ = a4
    have hz_a4 : a4.tmps.size = 133 := by rw [← hA]; simp only [size_put, hz_a3]
    have y11 : a4.eval (.tmp 11) = .pointer (some ⟨pb, 0, none⟩) := by rw [← hA]; exact (by simp [x11])
    have y13 : a4.eval (.tmp 13) = .int .i64 k := by rw [← hA]; exact (by simp [x13])
    have y14 : a4.eval (.tmp 14) = .pointer (some ⟨p1, 0, none⟩) := by rw [← hA]; exact (by simp [x14])
    have y16 : a4.eval (.tmp 16) = .int .i64 i := by rw [← hA]; exact (by simp [x16])
    have y17 : a4.eval (.tmp 17) = .int .i64 day := by rw [← hA]; exact (by simp [x17])
    have y18 : a4.eval (.tmp 18) = .pointer (some ⟨px, 0, none⟩) := by rw [← hA]; exact (by simp [hz_a3])
    have hd_a4 : a4.defers = [] := by rw [← hA]; simp only [defers_put, hd_a3]
    clear hA
    obtain ⟨v5, Wc, hr5, hb5, wx5, ho5, hB6, wx6, ho6, hk6⟩ := copy_run (c := c) (ty := 22) (W0 := W4) hsB (Below.refl px W4) (by omega) (Nat.le_refl px) wx
    have hB6' : Below b3 W (Wc.setCell ⟨px, 2, none⟩ v5) := hB1.trans (hB6.mono hb3x)
    obtain ⟨A2, c2, e5, _⟩ := sales_of_owns73 ho5
    subst e5
    refine wpIn_seq (region_p 6 ?_)
    intro K hK
    refine ListK.bsl (i := 0) (ps := #[]) (v := .slice (some ⟨W4.heap.size, 0, none⟩) 0 0) rfl (by simp []) (bs22_z W4) ?_
    refine ListK.field (i := 1) (u := .pointer (some ⟨pb, 0, none⟩)) (v := .pointer (some ⟨pb, 2, none⟩)) rfl (by simp [y11]) (fa24_2 _) ?_
    refine ListK.load (i := 2) (p := ⟨pb, 2, none⟩) (v := .slice (some ⟨b, off, none⟩) l.length c) rfl (by simp [hz_a4]) (ld22 ((wb.alloc _).cell 2)) ?_
    refine ListK.app22 (i := 3) (v := .slice (some ⟨W4.heap.size, 0, none⟩) 0 0) (v2 := .slice (some ⟨b, off, none⟩) l.length c) rfl (by simp [hz_a4]) (by simp [hz_a4]) hr5 ?_
    refine ListK.field (i := 4) (u := .pointer (some ⟨px, 0, none⟩)) (v := .pointer (some ⟨px, 2, none⟩)) rfl (by simp [y18]) (fa24_2 _) ?_
    refine ListK.store (i := 5) (u := .pointer (some ⟨px, 2, none⟩)) (u' := .slice A2 l.length c2) rfl (by simp [hz_a4]) (by simp [hz_a4]) (st22 (wx5.cell 2) (wx5.frozen 2)) ?_
    refine ListK.done (hK _ _ ?_)
    clear hK K
    replace wb := hk6 pb 24 _ (by omega) wb.lt wb
    replace wr := hk6 p1 46 _ (by omega) wr.lt wr
    have hpB : px < W4.heap.size := wx.lt
    have hs6 : SalesAt (Wc.setCell ⟨px, 2, none⟩ (.slice A2 l.length c2)) px (some ⟨b, off, none⟩) l := hsB.below hB6 (Nat.le_refl _)
    generalize W4.heap.size = B5 at *
    generalize (Wc.setCell ⟨px, 2, none⟩ (.slice A2 l.length c2)) = W6 at *
    generalize hA : Act.put _ _ _ = a5
    have hz_a5 : a5.tmps.size = 133 := by rw [← hA]; simp only [size_put, hz_a4]
    have z11 : a5.eval (.tmp 11) = .pointer (some ⟨pb, 0, none⟩) := by rw [← hA]; exact (by simp [y11])
    have z13 : a5.eval (.tmp 13) = .int .i64 k := by rw [← hA]; exact (by simp [y13])
    have z14 : a5.eval (.tmp 14) = .pointer (some ⟨p1, 0, none⟩) := by rw [← hA]; exact (by simp [y14])
    have z16 : a5.eval (.tmp 16) = .int .i64 i := by rw [← hA]; exact (by simp [y16])
    have z17 : a5.eval (.tmp 17) = .int .i64 day := by rw [← hA]; exact (by simp [y17])
    have z18 : a5.eval (.tmp 18) = .pointer (some ⟨px, 0, none⟩) := by rw [← hA]; exact (by simp [y18])
    have hd_a5 : a5.defers = [] := by rw [← hA]; simp only [defers_put, hd_a4]
    clear hA
    clear ho5 hb5 wx5 hr5 wx hk6 hB1 hsB hB6
    obtain ⟨g, rfl⟩ := own_some ho6 (by omega)
    obtain ⟨r1, r2, r3, r4⟩ := row_facts ho6 rfl
    obtain ⟨b', o', e', _, k0, k1, k2, k3, k4⟩ := r3 k _ (List.getElem?_eq_getElem hk)
    cases e'
    refine wpIn_seq (region_p 9 ?_)
    intro K hK
    refine ListK.field (i := 0) (u := .pointer (some ⟨px, 0, none⟩)) (v := .pointer (some ⟨px, 2, none⟩)) rfl (by simp [z18]) (fa24_2 _) ?_
    refine ListK.load (i := 1) (p := ⟨px, 2, none⟩) (v := .slice (some ⟨g, 0, none⟩) l.length c2) rfl (by simp [hz_a5]) (ld22 (wx6.cell 2)) ?_
    refine ListK.move (i := 2) (v := .int .i64 k) rfl (by simp [z13]) ?_
    refine ListK.move (i := 3) (v := .int .i64 day) rfl (by simp [z17]) ?_
    refine ListK.move (i := 4) (v := .int .i64 day) rfl (by simp [z17]) ?_
    refine ListK.bld (i := 5) (ps := #[(0, .int .i64 day), (1, .int .i64 day)]) (v := .agg #[.int .i64 day, .int .i64 day]) rfl (by simp [hz_a5]) (bd71 _ _ _) ?_
    refine ListK.index (i := 6) (u := .slice (some ⟨g, 0, none⟩) l.length c2) (u' := .int .i64 k) (v := .pointer (some ⟨g, 0 + k * 5, none⟩)) rfl (by simp [hz_a5]) (by simp [hz_a5]) (ix22 hk _) ?_
    refine ListK.field (i := 7) (u := .pointer (some ⟨g, 0 + k * 5, none⟩)) (v := .pointer (some ⟨g, 0 + k * 5 + 3, none⟩)) rfl (by simp [hz_a5]) (fa73_3 _) ?_
    refine ListK.store (i := 8) (u := .pointer (some ⟨g, 0 + k * 5 + 3, none⟩)) (u' := .agg #[.int .i64 day, .int .i64 day]) rfl (by simp [hz_a5]) (by simp [hz_a5]) (st71 k3 k4 (r4 _ (by omega)) (r4 _ (by omega))) ?_
    refine ListK.done (hK _ _ ?_)
    clear hK K
    have ho7 := row_days ho6 (k := k) (s := saleOf l k) (by rw [saleOf_eq (List.getElem?_eq_getElem hk)]; exact List.getElem?_eq_getElem hk) day day
    have hB8 : Below b3 W (putDays W6 g (0 + k * 5 + 3) day day) := (hB6'.setCell (p := ⟨g, 0 + k * 5 + 3, none⟩) (by show b3 ≤ g; omega) _).setCell (p := ⟨g, 0 + k * 5 + 3 + 1, none⟩) (by show b3 ≤ g; omega) _
    have wb8 : Whole (putDays W6 g (0 + k * 5 + 3) day day) pb 24 _ := (wb.far (by show pb ≠ g; omega) _).far (by show pb ≠ g; omega) _
    have wr8 : Whole (putDays W6 g (0 + k * 5 + 3) day day) p1 46 _ := (wr.far (by show p1 ≠ g; omega) _).far (by show p1 ≠ g; omega) _
    have wx8 : Whole (putDays W6 g (0 + k * 5 + 3) day day) px 24 _ := (wx6.far (by show px ≠ g; omega) _).far (by show px ≠ g; omega) _
    have hs8 : SalesAt (putDays W6 g (0 + k * 5 + 3) day day) px (some ⟨b, off, none⟩) l := hs6.keep fun q o' hq => by
      unfold putDays
      rw [cell_set_far (by show q ≠ g; omega), cell_set_far (by show q ≠ g; omega)]
    clear hB6' wb wr wx6 hs6 ho6 r3 r4 k0 k1 k2 k3 k4
    have eW : (W6.setCell ⟨g, 0 + k * 5 + 3, none⟩ (.int .i64 day)).setCell ⟨g, 0 + k * 5 + 3 + 1, none⟩ (.int .i64 day) = putDays W6 g (0 + k * 5 + 3) day day := rfl
    rw [eW]
    clear eW
    generalize putDays W6 g (0 + k * 5 + 3) day day = W7 at *
    generalize hA : Act.put _ _ _ = a6
    have hz_a6 : a6.tmps.size = 133 := by rw [← hA]; simp only [size_put, hz_a5]
    have q11 : a6.eval (.tmp 11) = .pointer (some ⟨pb, 0, none⟩) := by rw [← hA]; exact (by simp [z11])
    have q13 : a6.eval (.tmp 13) = .int .i64 k := by rw [← hA]; exact (by simp [z13])
    have q14 : a6.eval (.tmp 14) = .pointer (some ⟨p1, 0, none⟩) := by rw [← hA]; exact (by simp [z14])
    have q16 : a6.eval (.tmp 16) = .int .i64 i := by rw [← hA]; exact (by simp [z16])
    have q17 : a6.eval (.tmp 17) = .int .i64 day := by rw [← hA]; exact (by simp [z17])
    have q18 : a6.eval (.tmp 18) = .pointer (some ⟨px, 0, none⟩) := by rw [← hA]; exact (by simp [z18])
    have hd_a6 : a6.defers = [] := by rw [← hA]; simp only [defers_put, hd_a5]
    clear hA
    obtain ⟨l2, hl2⟩ : ∃ l2, l2 = narrow l k day := ⟨_, rfl⟩
    have hll : l2.length = l.length := by rw [hl2, narrow_len]
    have hv2 : Valid o t l2 := by rw [hl2]; exact narrow_valid hv hk hinr.1 hinr.2
    have hwid : WiderB t l2 t l := by rw [hl2]; exact narrow_wider hk hinr.1 hinr.2
    have hfit : fitsB t l2 = true ↔ DayIn t l k day := by rw [hl2]; exact narrow_fits hv hk hinr.1 hinr.2
    change W7.ownsRow _ 73 5 _ l.length (salesL (narrow l k day)) at ho7
    rw [← hl2, ← hll] at ho7
    rw [← hll] at wx8
    obtain ⟨A2', c2', e5, hx⟩ := sales_of_owns73 ho7
    cases e5
    have hs := hs8.more (by have := wx8.lt; omega : px ≤ W7.heap.size)
    have hB1 := hB8
    have wb := wb8
    have wr := wr8
    have wx := wx8
    clear hB8 wb8 wr8 wx8 hs8 ho7 r1 r2
    refine wpIn_seq (region_p 10 ?_)
    intro K hK
    refine ListK.load (i := 0) (p := ⟨px, 0, none⟩) (v := .agg #[.int .i64 o, .int .i64 t, .slice (some ⟨g, 0, none⟩) l2.length c2]) rfl (by simp [q18]) (ld24 ⟨wx.cell 0, wx.cell 1, wx.cell 2⟩) ?_
    refine ListK.call (i := 1) (vs := #[.agg #[.int .i64 o, .int .i64 t, .slice (some ⟨g, 0, none⟩) l2.length c2]]) rfl (enters_of Try.func18 (by kernel_rfl) rfl) (by simp [hz_a6]) (((batch_any o t (some ⟨g, 0, none⟩) l2 c2 W7 (by omega) hx)).mono ?_)
    rintro _ W8 ⟨A3, c3, rfl, hs_b, hb_t3⟩
    have hL_t3 := hB1.trans (hb_t3.mono (by have := hB1.size; omega))
    replace hs := (hs.below hb_t3 (Nat.le_refl _)).more hb_t3.size
    replace hx := (hx.below hb_t3 (Nat.le_refl _)).more hb_t3.size
    replace wb := wb.below hb_t3 wb.lt
    replace wr := wr.below hb_t3 wr.lt
    replace wx := wx.below hb_t3 wx.lt
    replace hB1 := hL_t3
    refine ⟨_, rfl, ?_⟩
    refine ListK.call (i := 2) (vs := #[.agg #[.int .i64 o, .int .i64 t, .slice A3 l2.length c3]]) rfl (enters_of Try.func23 (by kernel_rfl) rfl) (by simp [hz_a6]) (((order_any o t A3 l2 c3 W8 (by omega) hs_b)).mono ?_)
    rintro _ W9 ⟨v1, v2, xs, ds, rfl, ⟨A5, c5, rfl, hc5, i5⟩, ⟨A6, c6, rfl, hc6, i6⟩, hor, hb_t4⟩
    have hL_t4 := hB1.trans (hb_t4.mono (by have := hB1.size; omega))
    replace hs := (hs.below hb_t4 (Nat.le_refl _)).more hb_t4.size
    replace hx := (hx.below hb_t4 (Nat.le_refl _)).more hb_t4.size
    replace wb := wb.below hb_t4 wb.lt
    replace wr := wr.below hb_t4 wr.lt
    replace wx := wx.below hb_t4 wx.lt
    replace hB1 := hL_t4
    refine ⟨_, rfl, ?_⟩
    refine ListK.move (i := 3) (v := .tuple #[.slice A5 xs.length c5, .slice A6 ds.length c6, .int .i64 (triedE o t l2 true)]) rfl (by simp [hz_a6]) ?_
    refine ListK.extract (i := 4) (u := .tuple #[.slice A5 xs.length c5, .slice A6 ds.length c6, .int .i64 (triedE o t l2 true)]) (v := .slice A5 xs.length c5) rfl (by simp [hz_a6]) (ex3_0 _ _ _ _) ?_
    refine ListK.extract (i := 5) (u := .tuple #[.slice A5 xs.length c5, .slice A6 ds.length c6, .int .i64 (triedE o t l2 true)]) (v := .slice A6 ds.length c6) rfl (by simp [hz_a6]) (ex3_1 _ _ _ _) ?_
    refine ListK.extract (i := 6) (u := .tuple #[.slice A5 xs.length c5, .slice A6 ds.length c6, .int .i64 (triedE o t l2 true)]) (v := .int .i64 (triedE o t l2 true)) rfl (by simp [hz_a6]) (ex3_2 _ _ _ _) ?_
    refine ListK.assign (i := 7) (v := .slice A5 xs.length c5) rfl (by simp [hz_a6]) ?_
    refine ListK.assign (i := 8) (v := .slice A6 ds.length c6) rfl (by simp [hz_a6]) ?_
    refine ListK.assign (i := 9) (v := .int .i64 (triedE o t l2 true)) rfl (by simp [hz_a6]) ?_
    refine ListK.done (hK _ _ ?_)
    clear hK K
    generalize hA : Act.put _ _ _ = a7
    have hz_a7 : a7.tmps.size = 133 := by rw [← hA]; simp only [size_put, hz_a6]
    have s11 : a7.eval (.tmp 11) = .pointer (some ⟨pb, 0, none⟩) := by rw [← hA]; exact (by simp [q11])
    have s13 : a7.eval (.tmp 13) = .int .i64 k := by rw [← hA]; exact (by simp [q13])
    have s14 : a7.eval (.tmp 14) = .pointer (some ⟨p1, 0, none⟩) := by rw [← hA]; exact (by simp [q14])
    have s16 : a7.eval (.tmp 16) = .int .i64 i := by rw [← hA]; exact (by simp [q16])
    have s19 : a7.eval (.tmp 19) = .slice A5 xs.length c5 := by rw [← hA]; exact (by simp [hz_a6])
    have s20 : a7.eval (.tmp 20) = .slice A6 ds.length c6 := by rw [← hA]; exact (by simp [hz_a6])
    have s21 : a7.eval (.tmp 21) = .int .i64 (triedE o t l2 true) := by rw [← hA]; exact (by simp [hz_a6])
    have hd_a7 : a7.defers = [] := by rw [← hA]; simp only [defers_put, hd_a6]
    clear hA
    by_cases hi2 : i < 2
    · have hf2 := hfit.2 (hin2 hi2).1
      obtain ⟨htr, hxl, hdl⟩ := ord_truth hor hv2.fault hf2
      have htr2 := truth_wider hwid htr
      have h9 := tried_yes hv2.fault hf2
      refine wpIn_seq (region_p 21 ?_)
      intro K hK
      refine ListK.move (i := 0) (v := .int .i64 i) rfl (by simp [s16]) ?_
      refine ListK.bin (i := 1) (u := .int .i64 i) (u' := .int .i64 2) (v := .bool true) rfl (by simp [hz_a7]) (by simp) (lssT (by omega) _) ?_
      refine ListK.move (i := 2) (v := .bool true) rfl (by simp [hz_a7]) ?_
      refine ListK.move (i := 3) (v := .int .i64 (triedE o t l2 true)) rfl (by simp [s21]) ?_ (hw := wanted_g (e := 113) (b' := true) rfl (by simp [hz_a7]) rfl)
      refine ListK.bin (i := 4) (u := .int .i64 (triedE o t l2 true)) (u' := .int .i64 0) (v := .bool false) rfl (by simp [hz_a7]) (by simp) (nqF h9 _) ?_ (hw := wanted_g (e := 113) (b' := true) rfl (by simp [hz_a7]) rfl)
      refine ListK.move (i := 5) (v := .bool false) rfl (by simp [hz_a7]) ?_ (hw := wanted_g (e := 113) (b' := true) rfl (by simp [hz_a7]) rfl)
      refine ListK.load (i := 6) (p := ⟨pb, 0, none⟩) (v := .agg #[.int .i64 o, .int .i64 t, .slice (some ⟨b, off, none⟩) l.length c]) rfl (by simp [s11]) (ld24 ⟨wb.cell 0, wb.cell 1, wb.cell 2⟩) ?_ (hw := wanted_g (e := 116) (b' := false) rfl (by simp [hz_a7]) rfl)
      refine ListK.move (i := 7) (v := .slice A5 xs.length c5) rfl (by simp [s19]) ?_ (hw := wanted_g (e := 116) (b' := false) rfl (by simp [hz_a7]) rfl)
      refine ListK.move (i := 8) (v := .slice A6 ds.length c6) rfl (by simp [s20]) ?_ (hw := wanted_g (e := 116) (b' := false) rfl (by simp [hz_a7]) rfl)
      refine ListK.call (i := 9) (vs := #[.agg #[.int .i64 o, .int .i64 t, .slice (some ⟨b, off, none⟩) l.length c], .slice A5 xs.length c5, .slice A6 ds.length c6]) rfl (enters_of Try.func22 (by kernel_rfl) rfl) (by simp [hz_a7]) (((truth_any o t (some ⟨b, off, none⟩) A5 A6 l xs ds c c5 c6 W9 (by omega) hc5 (by omega) (by omega) hvt hvt1 hmm hs i5 i6)).mono ?_) (hw := wanted_g (e := 116) (b' := false) rfl (by simp [hz_a7]) rfl)
      rintro _ W10 ⟨rfl, hb_t5⟩
      rw [htr2]
      have hL_t5 := hB1.trans (hb_t5.mono (by have := hB1.size; omega))
      replace hs := (hs.below hb_t5 (Nat.le_refl _)).more hb_t5.size
      replace hx := (hx.below hb_t5 (Nat.le_refl _)).more hb_t5.size
      replace i5 := (i5.below hb_t5 (Nat.le_refl _)).more hb_t5.size
      replace i6 := (i6.below hb_t5 (Nat.le_refl _)).more hb_t5.size
      replace wb := wb.below hb_t5 wb.lt
      replace wr := wr.below hb_t5 wr.lt
      replace wx := wx.below hb_t5 wx.lt
      replace hB1 := hL_t5
      refine ⟨_, rfl, ?_⟩
      refine ListK.un (i := 10) (u := .bool true) (v := .bool false) rfl (by simp [hz_a7]) (not4 _ _) ?_ (hw := wanted_g (e := 116) (b' := false) rfl (by simp [hz_a7]) rfl)
      refine ListK.pickW (i := 11) (b := false) (v := .bool false) rfl (by simp [hz_a7]) (by simp [hz_a7]) ?_ (hw := wanted_g (e := 113) (b' := true) rfl (by simp [hz_a7]) rfl)
      refine ListK.pick (i := 12) (b := true) (v := .bool false) rfl (by simp [hz_a7]) (by simp [hz_a7]) ?_
      refine ListK.move (i := 13) (v := .bool false) rfl (by simp [hz_a7]) ?_
      refine ListK.move (i := 14) (v := .int .i64 i) rfl (by simp [s16]) ?_ (hw := wanted_g (e := 124) (b' := false) rfl (by simp [hz_a7]) rfl)
      refine ListK.bin (i := 15) (u := .int .i64 i) (u' := .int .i64 2) (v := .bool false) rfl (by simp [hz_a7]) (by simp) (geqF (by omega) _) ?_ (hw := wanted_g (e := 124) (b' := false) rfl (by simp [hz_a7]) rfl)
      refine ListK.move (i := 16) (v := .bool false) rfl (by simp [hz_a7]) ?_ (hw := wanted_g (e := 124) (b' := false) rfl (by simp [hz_a7]) rfl)
      refine ListK.passG (i := 17) (e := 127) (b' := false) rfl rfl (by simp [hz_a7]) rfl ?_
      refine ListK.passG (i := 18) (e := 127) (b' := false) rfl rfl (by simp [hz_a7]) rfl ?_
      refine ListK.pickW (i := 19) (b := false) (v := .bool false) rfl (by simp [hz_a7]) (by simp) ?_ (hw := wanted_g (e := 124) (b' := false) rfl (by simp [hz_a7]) rfl)
      refine ListK.pick (i := 20) (b := false) (v := .bool false) rfl (by simp [hz_a7]) (by simp [hz_a7]) ?_
      refine ListK.done (hK _ _ ?_)
      clear hK K
      refine wpIn_cond (t := false) (by simp [hz_a7]) (wpIn_skip ?_)
      exact hQ1 _ _ ⟨(by simp only [size_put, hz_a7]), (by simp only [defers_put, hd_a7]), (by simp [s11]), (by simp [s13]), (by simp [s14]), (by simp [s16])⟩ ⟨by rw [hb3]; exact hB1, wb, wr, hs⟩
    · have hf2 : fitsB t l2 = false := by
        cases h : fitsB t l2 with
        | false => rfl
        | true => exact absurd (hfit.1 h) (hout2 (by omega))
      have h9 := tried_no hv2.fault hf2
      refine wpIn_seq (region_p 21 ?_)
      intro K hK
      refine ListK.move (i := 0) (v := .int .i64 i) rfl (by simp [s16]) ?_
      refine ListK.bin (i := 1) (u := .int .i64 i) (u' := .int .i64 2) (v := .bool false) rfl (by simp [hz_a7]) (by simp) (lssF (by omega) _) ?_
      refine ListK.move (i := 2) (v := .bool false) rfl (by simp [hz_a7]) ?_
      refine ListK.passG (i := 3) (e := 113) (b' := false) rfl rfl (by simp [hz_a7]) rfl ?_
      refine ListK.passG (i := 4) (e := 113) (b' := false) rfl rfl (by simp [hz_a7]) rfl ?_
      refine ListK.passG (i := 5) (e := 113) (b' := false) rfl rfl (by simp [hz_a7]) rfl ?_
      refine ListK.passU (i := 6) (e := 116) rfl rfl (by simp [hz_a7]) ?_
      refine ListK.passU (i := 7) (e := 116) rfl rfl (by simp [hz_a7]) ?_
      refine ListK.passU (i := 8) (e := 116) rfl rfl (by simp [hz_a7]) ?_
      refine ListK.passU (i := 9) (e := 116) rfl rfl (by simp [hz_a7]) ?_
      refine ListK.passU (i := 10) (e := 116) rfl rfl (by simp [hz_a7]) ?_
      refine ListK.passG (i := 11) (e := 113) (b' := false) rfl rfl (by simp [hz_a7]) rfl ?_
      refine ListK.pick (i := 12) (b := false) (v := .bool false) rfl (by simp [hz_a7]) (by simp) ?_
      refine ListK.move (i := 13) (v := .bool false) rfl (by simp [hz_a7]) ?_
      refine ListK.move (i := 14) (v := .int .i64 i) rfl (by simp [s16]) ?_ (hw := wanted_g (e := 124) (b' := false) rfl (by simp [hz_a7]) rfl)
      refine ListK.bin (i := 15) (u := .int .i64 i) (u' := .int .i64 2) (v := .bool true) rfl (by simp [hz_a7]) (by simp) (geqT (by omega) _) ?_ (hw := wanted_g (e := 124) (b' := false) rfl (by simp [hz_a7]) rfl)
      refine ListK.move (i := 16) (v := .bool true) rfl (by simp [hz_a7]) ?_ (hw := wanted_g (e := 124) (b' := false) rfl (by simp [hz_a7]) rfl)
      refine ListK.move (i := 17) (v := .int .i64 (triedE o t l2 true)) rfl (by simp [s21]) ?_ (hw := wanted_g (e := 127) (b' := true) rfl (by simp [hz_a7]) rfl)
      refine ListK.bin (i := 18) (u := .int .i64 (triedE o t l2 true)) (u' := .int .i64 9) (v := .bool false) rfl (by simp [hz_a7]) (by simp) (nqF h9 _) ?_ (hw := wanted_g (e := 127) (b' := true) rfl (by simp [hz_a7]) rfl)
      refine ListK.pickW (i := 19) (b := true) (v := .bool false) rfl (by simp [hz_a7]) (by simp [hz_a7]) ?_ (hw := wanted_g (e := 124) (b' := false) rfl (by simp [hz_a7]) rfl)
      refine ListK.pick (i := 20) (b := false) (v := .bool false) rfl (by simp [hz_a7]) (by simp [hz_a7]) ?_
      refine ListK.done (hK _ _ ?_)
      clear hK K
      refine wpIn_cond (t := false) (by simp [hz_a7]) (wpIn_skip ?_)
      exact hQ1 _ _ ⟨(by simp only [size_put, hz_a7]), (by simp only [defers_put, hd_a7]), (by simp [s11]), (by simp [s13]), (by simp [s14]), (by simp [s16])⟩ ⟨by rw [hb3]; exact hB1, wb, wr, hs⟩
end
end Go.Proofs.Ytfcnombmphophaa
namespace Go.Proofs.Ytfcnombmphophaa
open Go.RowKit Go.Shelf
set_option maxHeartbeats 4000000 in
theorem ends_any (no nt nd : Nat) (A1 : Option Addr) (ws : List Nat) (c1 : Nat) (W : World) (h1 : no < 256) (h2 : nt < 65536) (hnd : nd < 256) (hw : WordsAt W W.heap.size A1 ws) :
    Calls Try.prog 9 #[.int .u8 no, .int .u16 nt, .slice A1 ws.length c1, .int .u8 nd] W (TP W true) := by
  refine (callsIn_wide (n := 5)).1 (callsIn_of_wp Try.func9 body9 trivial ?_ rfl)
  obtain ⟨a, ha⟩ : ∃ a : Act, a = { tmps := #[.int .u8 no, .int .u16 nt, .slice A1 ws.length c1, .int .u8 nd] ++ Array.replicate (Try.f9.ntmps - (#[.int .u8 no, .int .u16 nt, .slice A1 ws.length c1, .int .u8 nd] : Array Value).size) undef, defers := [] } := ⟨_, rfl⟩
  have hsz : a.tmps.size = 133 := by rw [ha]; simp [Try.ntmps9]
  have t0 : a.eval (.tmp 0) = .int .u8 no := by rw [ha]; simp [Act.eval]
  have t1 : a.eval (.tmp 1) = .int .u16 nt := by rw [ha]; simp [Act.eval]
  have t2 : a.eval (.tmp 2) = .slice A1 ws.length c1 := by rw [ha]; simp [Act.eval]
  have t3 : a.eval (.tmp 3) = .int .u8 nd := by rw [ha]; simp [Act.eval]
  have hdf : a.defers = [] := by rw [ha]
  rw [← ha]
  clear ha
  have hret : ∀ (a' : Act) (W' : World), a'.defers = [] → a'.eval (.tmp 8) = .bool true → Below W.heap.size W W' → bodyPost Try.prog Try.f9 (TP W true) .ret a' W' := fun a' W' hd h4 hb =>
    bodyPost_ret (v := .bool true) (res1 Try.results9 h4) hd ⟨rfl, hb⟩
  unfold code9
  obtain ⟨o, ho⟩ : ∃ o : Int, 1 + (no : Int) % 6 = o := ⟨_, rfl⟩
  obtain ⟨t, ht⟩ : ∃ t : Int, (nt : Int) % 1001 = t := ⟨_, rfl⟩
  have hdr := drawn_any no nt W h1 h2
  rw [ho, ht] at hdr
  refine wpIn_seq (region_p 1 ?_)
  intro K hK
  refine ListK.assign (i := 0) (v := .bool false) rfl (by simp) ?_
  refine ListK.done (hK _ _ ?_)
  clear hK K
  generalize hA : Act.put _ _ _ = a1
  have hz_a1 : a1.tmps.size = 133 := by rw [← hA]; simp only [size_put, hsz]
  have u0 : a1.eval (.tmp 0) = .int .u8 no := by rw [← hA]; exact (by simp [t0])
  have u1 : a1.eval (.tmp 1) = .int .u16 nt := by rw [← hA]; exact (by simp [t1])
  have u2 : a1.eval (.tmp 2) = .slice A1 ws.length c1 := by rw [← hA]; exact (by simp [t2])
  have u3 : a1.eval (.tmp 3) = .int .u8 nd := by rw [← hA]; exact (by simp [t3])
  have hd_a1 : a1.defers = [] := by rw [← hA]; simp only [defers_put, hdf]
  clear hA
  refine wpIn_seq (region_p 8 ?_)
  intro K hK
  refine ListK.move (i := 0) (v := .int .u8 no) rfl (by simp [u0]) ?_
  refine ListK.move (i := 1) (v := .int .u16 nt) rfl (by simp [u1]) ?_
  refine ListK.call (i := 2) (vs := #[.int .u8 no, .int .u16 nt]) rfl (enters_of Try.func38 (by kernel_rfl) rfl) (by simp [hz_a1]) ((hdr).mono ?_)
  rintro _ W1 ⟨rfl, hb1⟩
  refine ⟨_, rfl, ?_⟩
  refine ListK.move (i := 3) (v := .tuple #[.int .i64 o, .int .i64 t]) rfl (by simp [hz_a1]) ?_
  refine ListK.extract (i := 4) (u := .tuple #[.int .i64 o, .int .i64 t]) (v := .int .i64 o) rfl (by simp [hz_a1]) (ex0 _ _ _) ?_
  refine ListK.extract (i := 5) (u := .tuple #[.int .i64 o, .int .i64 t]) (v := .int .i64 t) rfl (by simp [hz_a1]) (ex1 _ _ _) ?_
  refine ListK.assign (i := 6) (v := .int .i64 o) rfl (by simp [hz_a1]) ?_
  refine ListK.assign (i := 7) (v := .int .i64 t) rfl (by simp [hz_a1]) ?_
  refine ListK.done (hK _ _ ?_)
  clear hK K
  generalize hA : Act.put _ _ _ = a2
  have hz_a2 : a2.tmps.size = 133 := by rw [← hA]; simp only [size_put, hz_a1]
  have v2 : a2.eval (.tmp 2) = .slice A1 ws.length c1 := by rw [← hA]; exact (by simp [u2])
  have v3 : a2.eval (.tmp 3) = .int .u8 nd := by rw [← hA]; exact (by simp [u3])
  have v9 : a2.eval (.tmp 9) = .int .i64 o := by rw [← hA]; exact (by simp [hz_a1])
  have v10 : a2.eval (.tmp 10) = .int .i64 t := by rw [← hA]; exact (by simp [hz_a1])
  have hd_a2 : a2.defers = [] := by rw [← hA]; simp only [defers_put, hd_a1]
  clear hA
  have hw1 := hw.below hb1 hb1.size
  refine wpIn_seq (region_p 10 ?_)
  intro K hK
  refine ListK.move (i := 0) (v := .int .i64 o) rfl (by simp [v9]) ?_
  refine ListK.move (i := 1) (v := .int .i64 t) rfl (by simp [v10]) ?_
  refine ListK.move (i := 2) (v := .slice A1 ws.length c1) rfl (by simp [v2]) ?_
  refine ListK.call (i := 3) (vs := #[.int .i64 o, .int .i64 t, .slice A1 ws.length c1]) rfl (enters_of Try.func39 (by kernel_rfl) rfl) (by simp [hz_a2]) (((truth_by o t A1 ws c1 W1 (by omega) (by omega) (by omega) (by omega) hw1)).mono ?_)
  rintro _ W2 ⟨l, ds, A, c, A3, c3, rfl, hs, hi3, hb2, hv, hp, hdl⟩
  refine ⟨_, rfl, ?_⟩
  refine ListK.move (i := 4) (v := .tuple #[.agg #[.int .i64 o, .int .i64 t, .slice A l.length c], .slice A3 ds.length c3]) rfl (by simp [hz_a2]) ?_
  refine ListK.extract (i := 5) (u := .tuple #[.agg #[.int .i64 o, .int .i64 t, .slice A l.length c], .slice A3 ds.length c3]) (v := .agg #[.int .i64 o, .int .i64 t, .slice A l.length c]) rfl (by simp [hz_a2]) (ex0 _ _ _) ?_
  refine ListK.extract (i := 6) (u := .tuple #[.agg #[.int .i64 o, .int .i64 t, .slice A l.length c], .slice A3 ds.length c3]) (v := .slice A3 ds.length c3) rfl (by simp [hz_a2]) (ex1 _ _ _) ?_
  refine ListK.alloc (i := 7) rfl (al24 W2) ?_
  refine ListK.store (i := 8) (u := .pointer (some ⟨W2.heap.size, 0, none⟩)) (u' := .agg #[.int .i64 o, .int .i64 t, .slice A l.length c]) rfl (by simp [hz_a2]) (by simp [hz_a2]) (st24n W2 o t A l.length c) ?_
  refine ListK.assign (i := 9) (v := .slice A3 ds.length c3) rfl (by simp [hz_a2]) ?_
  refine ListK.done (hK _ _ ?_)
  clear hK K
  have wb := Whole.new W2 24 #[.int .i64 o, .int .i64 t, .slice A l.length c]
  have hb3 : Below W2.heap.size W2 (W2.alloc (.cells #[.int .i64 o, .int .i64 t, .slice A l.length c] 24)) := (Below.refl _ _).alloc (Nat.le_refl _) _
  have hb12 := hb1.trans (hb2.mono hb1.size)
  have hB1 := hb12.trans (hb3.mono hb12.size)
  replace hs := (hs.below hb3 (Nat.le_refl _)).more hb3.size
  generalize W2.alloc (.cells #[.int .i64 o, .int .i64 t, .slice A l.length c] 24) = W3 at *
  obtain ⟨pb, hpb⟩ : ∃ p, W2.heap.size = p := ⟨_, rfl⟩
  rw [hpb] at wb
  simp only [hpb]
  generalize hA : Act.put _ _ _ = a3
  have hz_a3 : a3.tmps.size = 133 := by rw [← hA]; simp only [size_put, hz_a2]
  have x3 : a3.eval (.tmp 3) = .int .u8 nd := by rw [← hA]; exact (by simp [v3])
  have x11 : a3.eval (.tmp 11) = .pointer (some ⟨pb, 0, none⟩) := by rw [← hA]; exact (by simp [hz_a2])
  have x12 : a3.eval (.tmp 12) = .slice A3 ds.length c3 := by rw [← hA]; exact (by simp [hz_a2])
  have hd_a3 : a3.defers = [] := by rw [← hA]; simp only [defers_put, hd_a2]
  clear hA
  clear hb1 hb2 hb3 hw1 hdr hw hb12 hi3
  have hl8 := hv.len
  have hF : fitsB t l = true := (fits_tru hv).2 ⟨_, hp⟩
  obtain ⟨b3, hb3⟩ : ∃ b, W.heap.size = b := ⟨_, rfl⟩
  rw [hb3] at hB1
  by_cases hd0 : ds.length = 0
  · skip
    refine wpIn_seq (wpIn_seq (region_p 3 ?_))
    intro K hK
    refine ListK.move (i := 0) (v := .slice A3 ds.length c3) rfl (by simp [x12]) ?_
    refine ListK.len (i := 1) (u := .slice A3 ds.length c3) (v := .int .i64 ds.length) rfl (by simp [hz_a3]) (ln25 _ _ _ _ _) rfl ?_
    refine ListK.bin (i := 2) (u := .int .i64 ds.length) (u' := .int .i64 0) (v := .bool true) rfl (by simp [hz_a3]) (by simp) (eql3T (by omega) _) ?_
    refine ListK.done (hK _ _ ?_)
    clear hK K
    refine wpIn_cond (t := true) (by simp [hz_a3]) ?_
    generalize hA : Act.put _ _ _ = a4
    have hz_a4 : a4.tmps.size = 133 := by rw [← hA]; simp only [size_put, hz_a3]
    have y11 : a4.eval (.tmp 11) = .pointer (some ⟨pb, 0, none⟩) := by rw [← hA]; exact (by simp [x11])
    have hd_a4 : a4.defers = [] := by rw [← hA]; simp only [defers_put, hd_a3]
    clear hA
    refine wpIn_seq (region_p 2 ?_)
    intro K hK
    refine ListK.call (i := 0) (vs := #[]) rfl (enters_of Try.func16 (by kernel_rfl) rfl) (by simp) (((wakes_any W3)).mono ?_)
    rintro _ W4 ⟨rfl, hb5⟩
    refine ⟨_, rfl, ?_⟩
    refine ListK.assign (i := 1) (v := .bool true) rfl (by simp [hz_a4]) ?_
    refine ListK.done (hK _ _ (wpIn_ret ?_))
    exact hret _ _ (by simp only [defers_put, hd_a4]) (by simp [hz_a4]) (by rw [hb3]; exact hB1.trans (hb5.mono (by have := hB1.size; omega)))
  · skip
    refine wpIn_seq (wpIn_seq (region_p 3 ?_))
    intro K hK
    refine ListK.move (i := 0) (v := .slice A3 ds.length c3) rfl (by simp [x12]) ?_
    refine ListK.len (i := 1) (u := .slice A3 ds.length c3) (v := .int .i64 ds.length) rfl (by simp [hz_a3]) (ln25 _ _ _ _ _) rfl ?_
    refine ListK.bin (i := 2) (u := .int .i64 ds.length) (u' := .int .i64 0) (v := .bool false) rfl (by simp [hz_a3]) (by simp) (eql3F (by omega) _) ?_
    refine ListK.done (hK _ _ ?_)
    clear hK K
    refine wpIn_cond (t := false) (by simp [hz_a3]) (wpIn_skip ?_)
    generalize hA : Act.put _ _ _ = a4
    have hz_a4 : a4.tmps.size = 133 := by rw [← hA]; simp only [size_put, hz_a3]
    have y3 : a4.eval (.tmp 3) = .int .u8 nd := by rw [← hA]; exact (by simp [x3])
    have y11 : a4.eval (.tmp 11) = .pointer (some ⟨pb, 0, none⟩) := by rw [← hA]; exact (by simp [x11])
    have y12 : a4.eval (.tmp 12) = .slice A3 ds.length c3 := by rw [← hA]; exact (by simp [x12])
    have hd_a4 : a4.defers = [] := by rw [← hA]; simp only [defers_put, hd_a3]
    clear hA
    show en_b.wpIn _ _ _ _ _ _
    unfold en_b
    obtain ⟨k, hk⟩ : ∃ k, nd % ds.length = k := ⟨_, rfl⟩
    have hkl : k < l.length := by
      rw [← hk, ← hdl]
      exact Nat.mod_lt _ (by omega)
    have hk' : (nd : Int) % (ds.length : Int) = (k : Int) := by omega
    refine wpIn_seq (region_p 6 ?_)
    intro K hK
    refine ListK.move (i := 0) (v := .int .u8 nd) rfl (by simp [y3]) ?_
    refine ListK.conv (i := 1) (u := .int .u8 nd) (v := .int .i64 nd) rfl (by simp [hz_a4]) (cvu8 hnd _) ?_
    refine ListK.move (i := 2) (v := .slice A3 ds.length c3) rfl (by simp [y12]) ?_
    refine ListK.len (i := 3) (u := .slice A3 ds.length c3) (v := .int .i64 ds.length) rfl (by simp [hz_a4]) (ln25 _ _ _ _ _) rfl ?_
    refine ListK.bin (i := 4) (u := .int .i64 nd) (u' := .int .i64 ds.length) (v := .int .i64 k) rfl (by simp [hz_a4]) (by simp [hz_a4]) (rem3r (by omega) (by omega) hk' _) ?_
    refine ListK.assign (i := 5) (v := .int .i64 k) rfl (by simp [hz_a4]) ?_
    refine ListK.done (hK _ _ ?_)
    clear hK K
    generalize hA : Act.put _ _ _ = a5
    have hz_a5 : a5.tmps.size = 133 := by rw [← hA]; simp only [size_put, hz_a4]
    have z11 : a5.eval (.tmp 11) = .pointer (some ⟨pb, 0, none⟩) := by rw [← hA]; exact (by simp [y11])
    have z13 : a5.eval (.tmp 13) = .int .i64 k := by rw [← hA]; exact (by simp [hz_a4])
    have hd_a5 : a5.defers = [] := by rw [← hA]; simp only [defers_put, hd_a4]
    clear hA
    refine wpIn_seq (region_p 10 ?_)
    intro K hK
    refine ListK.load (i := 0) (p := ⟨pb, 0, none⟩) (v := .agg #[.int .i64 o, .int .i64 t, .slice A l.length c]) rfl (by simp [z11]) (ld24 ⟨wb.cell 0, wb.cell 1, wb.cell 2⟩) ?_
    refine ListK.call (i := 1) (vs := #[.agg #[.int .i64 o, .int .i64 t, .slice A l.length c]]) rfl (enters_of Try.func18 (by kernel_rfl) rfl) (by simp [hz_a5]) (((batch_any o t A l c W3 (by omega) hs)).mono ?_)
    rintro _ W4 ⟨A_t1, c_t1, rfl, hs_t1, hb_t1⟩
    have hL_t1 := hB1.trans (hb_t1.mono (by have := hB1.size; omega))
    replace hs := (hs.below hb_t1 (Nat.le_refl _)).more hb_t1.size
    replace wb := wb.below hb_t1 wb.lt
    replace hB1 := hL_t1
    refine ⟨_, rfl, ?_⟩
    refine ListK.move (i := 2) (v := .int .i64 k) rfl (by simp [z13]) ?_
    refine ListK.call (i := 3) (vs := #[.agg #[.int .i64 o, .int .i64 t, .slice A_t1 l.length c_t1], .int .i64 k]) rfl (enters_of Try.func29 (by kernel_rfl) rfl) (by simp [hz_a5]) (((when_any o t A_t1 l c_t1 k W4 (by omega) hs_t1)).mono ?_)
    rintro _ W5 ⟨rfl, hb_t2⟩
    have hL_t2 := hB1.trans (hb_t2.mono (by have := hB1.size; omega))
    replace hs := (hs.below hb_t2 (Nat.le_refl _)).more hb_t2.size
    replace wb := wb.below hb_t2 wb.lt
    replace hB1 := hL_t2
    refine ⟨_, rfl, ?_⟩
    refine ListK.move (i := 4) (v := .tuple #[.agg #[.int .i64 (whenV o t l k).1, .int .i64 (whenV o t l k).2], .int .i64 (whenE o t l k)]) rfl (by simp [hz_a5]) ?_
    refine ListK.extract (i := 5) (u := .tuple #[.agg #[.int .i64 (whenV o t l k).1, .int .i64 (whenV o t l k).2], .int .i64 (whenE o t l k)]) (v := .agg #[.int .i64 (whenV o t l k).1, .int .i64 (whenV o t l k).2]) rfl (by simp [hz_a5]) (ex0 _ _ _) ?_
    refine ListK.extract (i := 6) (u := .tuple #[.agg #[.int .i64 (whenV o t l k).1, .int .i64 (whenV o t l k).2], .int .i64 (whenE o t l k)]) (v := .int .i64 (whenE o t l k)) rfl (by simp [hz_a5]) (ex1 _ _ _) ?_
    refine ListK.alloc (i := 7) rfl (al46 W5) ?_
    refine ListK.store (i := 8) (u := .pointer (some ⟨W5.heap.size, 0, none⟩)) (u' := .agg #[.int .i64 (whenV o t l k).1, .int .i64 (whenV o t l k).2]) rfl (by simp [hz_a5]) (by simp [hz_a5]) sa46 ?_
    refine ListK.assign (i := 9) (v := .int .i64 (whenE o t l k)) rfl (by simp [hz_a5]) ?_
    refine ListK.done (hK _ _ ?_)
    clear hK K
    obtain ⟨w_t3, hb_t3⟩ := put46 W5 ((whenV o t l k).1) ((whenV o t l k).2)
    have hL_t3 := hB1.trans (hb_t3.mono (by have := hB1.size; omega))
    replace hs := (hs.below hb_t3 (Nat.le_refl _)).more hb_t3.size
    replace wb := wb.below hb_t3 wb.lt
    replace hB1 := hL_t3
    generalize W5.heap.size = p_t3 at *
    generalize ((W5.alloc (.cells #[.int .i64 0, .int .i64 0] 46)).setCell ⟨p_t3, 0, none⟩ (.int .i64 ((whenV o t l k).1))).setCell ⟨p_t3, 1, none⟩ (.int .i64 ((whenV o t l k).2)) = W6 at *
    generalize hA : Act.put _ _ _ = a6
    have hz_a6 : a6.tmps.size = 133 := by rw [← hA]; simp only [size_put, hz_a5]
    have q11 : a6.eval (.tmp 11) = .pointer (some ⟨pb, 0, none⟩) := by rw [← hA]; exact (by simp [z11])
    have q13 : a6.eval (.tmp 13) = .int .i64 k := by rw [← hA]; exact (by simp [z13])
    have q14 : a6.eval (.tmp 14) = .pointer (some ⟨p_t3, 0, none⟩) := by rw [← hA]; exact (by simp [hz_a5])
    have q15 : a6.eval (.tmp 15) = .int .i64 (whenE o t l k) := by rw [← hA]; exact (by simp [hz_a5])
    have hd_a6 : a6.defers = [] := by rw [← hA]; simp only [defers_put, hd_a5]
    clear hA
    have hE := whenE_valid hv hkl
    have hV := whenV_valid hv hkl
    rw [hF, if_pos rfl] at hE hV
    refine wpIn_seq (wpIn_seq (region_p 2 ?_))
    intro K hK
    refine ListK.move (i := 0) (v := .int .i64 (whenE o t l k)) rfl (by simp [q15]) ?_
    refine ListK.bin (i := 1) (u := .int .i64 (whenE o t l k)) (u' := .int .i64 0) (v := .bool false) rfl (by simp [hz_a6]) (by simp) (nqF hE _) ?_
    refine ListK.done (hK _ _ ?_)
    clear hK K
    refine wpIn_cond (t := false) (by simp [hz_a6]) (wpIn_skip ?_)
    show (Code.seq _ _).wpIn _ _ _ _ _ _
    generalize hA : Act.put _ _ _ = a7
    have hz_a7 : a7.tmps.size = 133 := by rw [← hA]; simp only [size_put, hz_a6]
    have r11 : a7.eval (.tmp 11) = .pointer (some ⟨pb, 0, none⟩) := by rw [← hA]; exact (by simp [q11])
    have r13 : a7.eval (.tmp 13) = .int .i64 k := by rw [← hA]; exact (by simp [q13])
    have r14 : a7.eval (.tmp 14) = .pointer (some ⟨p_t3, 0, none⟩) := by rw [← hA]; exact (by simp [q14])
    have hd_a7 : a7.defers = [] := by rw [← hA]; simp only [defers_put, hd_a6]
    clear hA
    rw [hV] at w_t3
    have hm0 : EnM W pb p_t3 o t A l c (whenR t l k) W6 := ⟨by rw [hb3]; exact hB1, wb, w_t3, hs⟩
    clear hB1 wb w_t3 hs
    refine wpIn_seq (wpIn_seq (region_p 1 ?_))
    intro K hK
    refine ListK.assign (i := 0) (v := .int .i64 0) rfl (by simp) ?_
    refine ListK.done (hK _ _ ?_)
    clear hK K
    refine wpIn_block (wpIn_loop (fun a W' => ∃ i : Nat, i ≤ 4 ∧ EnF pb p_t3 k i a ∧ EnM W pb p_t3 o t A l c (whenR t l k) W') (fun a _ => 4 - (intOf (a.eval (.tmp 16))).toNat)
      ⟨0, by omega, ⟨(by simp only [size_put, hz_a7]), (by simp only [defers_put, hd_a7]), (by simp [r11]), (by simp [r13]), (by simp [r14]), (by simp [hz_a7])⟩, hm0⟩ ?_)
    rintro b1 W14 ⟨i, hi, hf, hm⟩
    obtain ⟨hz_b1, hd_b1, w11, w13, w14, w16⟩ := hf
    refine wpIn_seq (wpIn_seq (region_p 2 ?_))
    intro K hK
    refine ListK.move (i := 0) (v := .int .i64 (i : Int)) rfl (by simp [w16]) ?_
    refine ListK.bin (i := 1) (u := .int .i64 (i : Int)) (u' := .int .i64 4) (v := .bool (decide ((i : Int) < 4))) rfl (by simp [hz_b1]) (by simp) (lss3 _) ?_
    refine ListK.done (hK _ _ ?_)
    clear hK K
    by_cases hi4 : i < 4
    · refine wpIn_cond (t := true) (by simp [hz_b1]; omega) (wpIn_skip ?_)
      show (Code.seq _ _).wpIn _ _ _ _ _ _
      refine wpIn_seq (wpIn_block ?_)
      have hlast : ∀ (Q : Exit → Act → World → Prop), (∀ a' W', (∃ i : Nat, i ≤ 4 ∧ EnF pb p_t3 k i a' ∧ EnM W pb p_t3 o t A l c (whenR t l k) W') → 4 - (intOf (a'.eval (.tmp 16))).toNat < 4 - (intOf (b1.eval (.tmp 16))).toNat → Q .normal a' W') →
          ∀ a' W', EnF pb p_t3 k i a' → EnM W pb p_t3 o t A l c (whenR t l k) W' → (Code.region 11 opsEn11 false).wpIn Fence.wide 5 Try.prog Q a' W' := by
        intro Q hQ a' W' f' m'
        refine en11 hi4 f' fun a2 f2 => hQ _ _ ⟨i + 1, by omega, f2, m'⟩ ?_
        rw [f2.2.2.2.2.2, w16]
        simp only [intOf]
        omega
      refine en12 (pb := pb) (p1 := p_t3) hi4 hkl hv hF ⟨(by simp only [size_put, hz_b1]), (by simp only [defers_put, hd_b1]), (by simp [w11]), (by simp [w13]), (by simp [w14]), (by simp [w16])⟩ hm (fun a' W' f' m' => ?_) (fun a' W' f' m' => ?_)
      · exact hlast _ (fun a2 W2 h e => ⟨h, e⟩) a' W' f' m'
      · exact hlast _ (fun a2 W2 h e => ⟨h, e⟩) a' W' f' m'
    · refine wpIn_cond (t := false) (by simp [hz_b1]; omega) (wpIn_exit ?_)
      generalize hA : Act.put _ _ _ = b2
      have hz_b2 : b2.tmps.size = 133 := by rw [← hA]; simp only [size_put, hz_b1]
      have s11 : b2.eval (.tmp 11) = .pointer (some ⟨pb, 0, none⟩) := by rw [← hA]; exact (by simp [w11])
      have hd_b2 : b2.defers = [] := by rw [← hA]; simp only [defers_put, hd_b1]
      clear hA
      show en_d.wpIn _ _ _ _ _ _
      unfold en_d
      obtain ⟨hB1, _⟩ := hm
      refine wpIn_seq (region_p 2 ?_)
      intro K hK
      refine ListK.call (i := 0) (vs := #[]) rfl (enters_of Try.func16 (by kernel_rfl) rfl) (by simp) (((wakes_any W14)).mono ?_)
      rintro _ W15 ⟨rfl, hb5⟩
      refine ⟨_, rfl, ?_⟩
      refine ListK.assign (i := 1) (v := .bool true) rfl (by simp [hz_b2]) ?_
      refine ListK.done (hK _ _ (wpIn_ret ?_))
      exact hret _ _ (by simp only [defers_put, hd_b2]) (by simp [hz_b2]) (hB1.trans (hb5.mono hB1.size))
end Go.Proofs.Ytfcnombmphophaa
