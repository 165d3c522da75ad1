/- Texts for a law of package recall, behind the shared ones, part 1: the law's own contracts and plain words. -/
import Derived.Test.YtfcnombmphophaaK5

set_option linter.unusedVariables false
set_option maxRecDepth 10000

namespace Go.Proofs.Ytfcnombmphophaa
open Go.RowKit Go.Shelf
theorem holds_law {o t : Int} {l : List Sale} (hv : Valid o t l) (hF : fitsB t l = true) {on : Int} (h0 : 0 ≤ on) (h1 : on ≤ 100) {ow : Nat} (ho : (ow : Int) < o) : minTo 1001 (eveAt t l ow on) (allL t l).length = (holdsR t l ow on).1 ∧ maxTo (-1) (eveAt t l ow on) (allL t l).length = (holdsR t l ow on).2 := by
  obtain ⟨w1, w2, w3⟩ := holds_in hv hF ho h0 h1
  have hin : ∀ i, i < (allL t l).length → EveIn t l ow on (eveAt t l ow on i) := fun i hi => by
    refine (all_eve hv).2 ⟨_, List.getElem_mem hi, ?_⟩
    unfold eveAt
    rw [List.getElem?_eq_getElem hi]
    rfl
  have hfind : ∀ y, EveIn t l ow on y → ∃ i, i < (allL t l).length ∧ eveAt t l ow on i = y := fun y hy => by
    obtain ⟨ds, hds, e⟩ := (all_eve hv).1 hy
    obtain ⟨i, hi, ei⟩ := List.getElem_of_mem hds
    refine ⟨i, hi, ?_⟩
    unfold eveAt
    rw [List.getElem?_eq_getElem hi, Option.getD_some, ei]
    exact e
  obtain ⟨ps, hp⟩ := (fits_tru hv).1 hF
  obtain ⟨g1, g2, g3, g4⟩ := hold_facts hv hp h0 h1 ho
  exact ends_eq (fun i hi => w1 _ (hin i hi)) (hfind _ w2) (hfind _ w3) (by omega) (by omega)
end Go.Proofs.Ytfcnombmphophaa
namespace Go.Proofs.Ytfcnombmphophaa
open Go.RowKit Go.Shelf
noncomputable def opsHs0 : Array Oper := (Try.f6.body.bind (regionOf 0)).getD #[]
noncomputable def opsHs1 : Array Oper := (Try.f6.body.bind (regionOf 1)).getD #[]
noncomputable def opsHs2 : Array Oper := (Try.f6.body.bind (regionOf 2)).getD #[]
noncomputable def opsHs3 : Array Oper := (Try.f6.body.bind (regionOf 3)).getD #[]
noncomputable def opsHs4 : Array Oper := (Try.f6.body.bind (regionOf 4)).getD #[]
noncomputable def opsHs5 : Array Oper := (Try.f6.body.bind (regionOf 5)).getD #[]
noncomputable def opsHs6 : Array Oper := (Try.f6.body.bind (regionOf 6)).getD #[]
noncomputable def opsHs7 : Array Oper := (Try.f6.body.bind (regionOf 7)).getD #[]
noncomputable def opsHs8 : Array Oper := (Try.f6.body.bind (regionOf 8)).getD #[]
noncomputable def opsHs9 : Array Oper := (Try.f6.body.bind (regionOf 9)).getD #[]
noncomputable def opsHs10 : Array Oper := (Try.f6.body.bind (regionOf 10)).getD #[]
noncomputable def opsHs11 : Array Oper := (Try.f6.body.bind (regionOf 11)).getD #[]
noncomputable def opsHs12 : Array Oper := (Try.f6.body.bind (regionOf 12)).getD #[]
noncomputable def opsHs13 : Array Oper := (Try.f6.body.bind (regionOf 13)).getD #[]
noncomputable def opsHs14 : Array Oper := (Try.f6.body.bind (regionOf 14)).getD #[]
noncomputable def opsHs15 : Array Oper := (Try.f6.body.bind (regionOf 15)).getD #[]
noncomputable def opsHs16 : Array Oper := (Try.f6.body.bind (regionOf 16)).getD #[]
noncomputable def opsHs17 : Array Oper := (Try.f6.body.bind (regionOf 17)).getD #[]
noncomputable def opsHs18 : Array Oper := (Try.f6.body.bind (regionOf 18)).getD #[]
noncomputable def opsHs19 : Array Oper := (Try.f6.body.bind (regionOf 19)).getD #[]
noncomputable def opsHs20 : Array Oper := (Try.f6.body.bind (regionOf 20)).getD #[]
noncomputable def opsHs21 : Array Oper := (Try.f6.body.bind (regionOf 21)).getD #[]
noncomputable def opsHs22 : Array Oper := (Try.f6.body.bind (regionOf 22)).getD #[]
noncomputable def opsHs23 : Array Oper := (Try.f6.body.bind (regionOf 23)).getD #[]
noncomputable def opsHs24 : Array Oper := (Try.f6.body.bind (regionOf 24)).getD #[]
noncomputable def opsHs25 : Array Oper := (Try.f6.body.bind (regionOf 25)).getD #[]
noncomputable def opsHs26 : Array Oper := (Try.f6.body.bind (regionOf 26)).getD #[]
noncomputable def opsHs27 : Array Oper := (Try.f6.body.bind (regionOf 27)).getD #[]
noncomputable def opsHs28 : Array Oper := (Try.f6.body.bind (regionOf 28)).getD #[]
noncomputable def opsHs29 : Array Oper := (Try.f6.body.bind (regionOf 29)).getD #[]
noncomputable def opsHs30 : Array Oper := (Try.f6.body.bind (regionOf 30)).getD #[]
noncomputable def opsHs31 : Array Oper := (Try.f6.body.bind (regionOf 31)).getD #[]
noncomputable def opsHs32 : Array Oper := (Try.f6.body.bind (regionOf 32)).getD #[]
noncomputable def opsHs33 : Array Oper := (Try.f6.body.bind (regionOf 33)).getD #[]
noncomputable def opsHs34 : Array Oper := (Try.f6.body.bind (regionOf 34)).getD #[]
noncomputable def opsHs35 : Array Oper := (Try.f6.body.bind (regionOf 35)).getD #[]
noncomputable def hs_m : Code := (.seq (.seq (.region 25 opsHs25 false) (.cond (.tmp 110) .skip (.exit 2))) (.seq (.block 3 (.seq (.region 27 opsHs27 true) (.region 28 opsHs28 false))) (.region 26 opsHs26 false)))
noncomputable def hs_k : Code := (.seq (.region 33 opsHs33 false) (.cond (.tmp 148) (.seq (.region 34 opsHs34 false) .ret) .skip))
noncomputable def hs_j : Code := (.seq (.seq (.region 31 opsHs31 false) (.cond (.tmp 134) (.region 32 opsHs32 false) .skip)) hs_k)
noncomputable def hs_i : Code := (.seq (.seq (.region 29 opsHs29 false) (.cond (.tmp 128) (.region 30 opsHs30 false) .skip)) hs_j)
noncomputable def hs_l : Code := (.seq (.seq (.region 21 opsHs21 false) (.cond (.tmp 104) .skip (.exit 0))) (.seq (.block 1 (.seq (.region 23 opsHs23 false) (.seq (.seq (.region 24 opsHs24 false) (.block 2 (.loop hs_m))) hs_i))) (.region 22 opsHs22 false)))
noncomputable def hs_h : Code := (.seq (.region 35 opsHs35 false) .ret)
noncomputable def hs_g : Code := (.seq (.region 19 opsHs19 false) (.seq (.seq (.region 20 opsHs20 false) (.block 0 (.loop hs_l))) hs_h))
noncomputable def hs_f : Code := (.seq (.seq (.region 17 opsHs17 false) (.cond (.tmp 86) (.seq (.region 18 opsHs18 false) .ret) .skip)) hs_g)
noncomputable def hs_e : Code := (.seq (.seq (.region 15 opsHs15 false) (.cond (.tmp 84) (.seq (.region 16 opsHs16 false) .ret) .skip)) hs_f)
noncomputable def hs_d : Code := (.seq (.region 10 opsHs10 false) (.seq (.seq (.region 11 opsHs11 false) (.cond (.tmp 68) (.seq (.region 12 opsHs12 false) (.seq (.region 13 opsHs13 false) (.cond (.tmp 75) (.region 14 opsHs14 false) .skip))) .skip)) hs_e))
noncomputable def hs_c : Code := (.seq (.seq (.region 8 opsHs8 false) (.cond (.tmp 66) (.region 9 opsHs9 false) .skip)) hs_d)
noncomputable def hs_b : Code := (.seq (.region 5 opsHs5 true) (.seq (.seq (.region 6 opsHs6 false) (.cond (.tmp 59) (.region 7 opsHs7 false) .skip)) hs_c))
noncomputable def code6 : Code := (.seq (.region 0 opsHs0 false) (.seq (.seq (.region 1 opsHs1 false) (.cond (.tmp 24) (.seq (.region 2 opsHs2 false) .ret) .skip)) (.seq (.region 3 opsHs3 false) (.seq (.region 4 opsHs4 false) hs_b))))
theorem body6 : Try.f6.body = some code6 := by kernel_rfl
theorem ListK.bmin {ops : Array Oper} {K : Act → World → Prop} {k i d : Nat} {a : Act} {w : World} {ty : TypeId} {pos : String} {aft : Array Edge} {x y : Nat} {m n : Int} (hi : ops[i]? = some ⟨some d, .call { callee := .builtin .min, args := #[.tmp x, .tmp y], argTypes := #[3, 3] }, ty, pos, aft, none⟩) (hx : a.eval (.tmp x) = .int .i64 m) (hy : a.eval (.tmp y) = .int .i64 n)
    (h : ListK Try.prog ops K k (i + 1) (a.put (some d) (.int .i64 (min m n))) w) : ListK Try.prog ops K (k + 1) i a w := by
  have := min3 m n ty w
  exact ListK.val hi rfl (by simp [execOp, resolve, invoke, hx, hy]; exact this) h
section
attribute [local irreducible] AnyK StepK
set_option maxHeartbeats 2000000 in
theorem regionHs27 {F : Fence} {nF : Nat} (hF : WideF F Try.prog) {Q : Exit → Act → World → Prop} {a : Act} {w : World} {b3 nl c g n ca i m cm : Nat} {o t ow on ev : Int} {A A1 : Option Addr} (hsz : a.tmps.size = 169)
    (t2 : a.eval (.tmp 2) = .int .i64 on) (t3 : a.eval (.tmp 3) = .pointer (some ⟨b3, 0, none⟩)) (t14 : a.eval (.tmp 14) = .slice (some ⟨g, 0, none⟩) n ca) (t17 : a.eval (.tmp 17) = .int .i64 ow) (t20 : a.eval (.tmp 20) = .int .i64 i) (hin : i < n)
    (hR : RCn b3 o t A nl c w) (q0 : w.cell? ⟨g, i, none⟩ = some (.slice A1 m cm))
    (hev : ∀ W, Below w.heap.size w W → Calls Try.prog 34 #[.agg #[.int .i64 o, .int .i64 t, .slice A nl c], .slice A1 m cm, .int .i64 ow, .int .i64 on] W fun e w' => e = .returned (.int .i64 ev) ∧ Below W.heap.size W w')
    (hK : ∀ a' W', Below w.heap.size w W' → a'.tmps.size = 169 → a'.defers = a.defers → a'.eval (.tmp 21) = .int .i64 ev → (∀ e : Nat, e < 113 → e ≠ 21 → a'.eval (.tmp e) = a.eval (.tmp e)) → Q .normal a' W') :
    (Code.region 27 opsHs27 true).wpIn F nF Try.prog Q a w := by
  have hB : Below w.heap.size w w.drew := (Below.refl _ _).drew
  refine region_K (KpR (fun w => RCn b3 o t A nl c w ∧ w.cell? ⟨g, i, none⟩ = some (.slice A1 m cm)) (fun _ => false)) hF (by kernel_rfl) Try.mixed ?_
  change AnyK _ _ _ _ 9 (Array.replicate 9 false) _ _
  have hR1 : RCn b3 o t A nl c w.drew ∧ w.drew.cell? ⟨g, i, none⟩ = some (.slice A1 m cm) := ⟨hR, q0⟩
  have hev1 := hev w.drew hB
  have hBb : ∀ W', Below w.drew.heap.size w.drew W' → Below w.heap.size w W' := fun W' h => hB.trans (h.mono hB.size)
  clear hev hR q0 hB
  generalize w.drew = W1 at *
  refine AnyK.load (i := 0) may_o (p := ⟨b3, 0, none⟩) (v := .agg #[.int .i64 o, .int .i64 t, .slice A nl c]) (by simp [t3]) (fun w hw => ld24 hw.1) hR1 ?_
  refine AnyK.move (i := 1) may_o (v := .slice (some ⟨g, 0, none⟩) n ca) (by simp [t14]) hR1 ?_
  refine AnyK.move (i := 2) may_o (v := .int .i64 i) (by simp [t20]) hR1 ?_
  refine AnyK.index (i := 3) may_o (u := .slice (some ⟨g, 0, none⟩) n ca) (u' := .int .i64 i) (v := .pointer (some ⟨g, i, none⟩)) (by simp [hsz]) (by simp [hsz]) (fun w => ix49 hin w) hR1 ?_
  refine AnyK.load (i := 4) may_o (p := ⟨g, i, none⟩) (v := .slice A1 m cm) (by simp [hsz]) (fun w hw => ld25 hw.2) hR1 ?_
  refine AnyK.move (i := 5) may_o (v := .int .i64 ow) (by simp [t17]) hR1 ?_
  refine AnyK.move (i := 6) may_o (v := .int .i64 on) (by simp [t2]) hR1 ?_
  refine AnyK.pick1 (i := 7) (by kernel_rfl) ?_
  refine StepK.call (i := 7) (f := 34) (vs := #[.agg #[.int .i64 o, .int .i64 t, .slice A nl c], .slice A1 m cm, .int .i64 ow, .int .i64 on]) rfl (enters_of Try.func34 (by kernel_rfl) rfl) (by simp) (by simp [hsz]) (hev1.mono ?_)
  rintro _ W4 ⟨rfl, hb4⟩
  have hk : ∀ {b i : Nat} {u : Value}, W1.cell? ⟨b, i, none⟩ = some u → W4.cell? ⟨b, i, none⟩ = some u := fun {b i u} h => (hb4.cell (p := ⟨b, i, none⟩) (by have := block_lt_of_cell h; exact this)).trans h
  have hR4 : RCn b3 o t A nl c W4 ∧ W4.cell? ⟨g, i, none⟩ = some (.slice A1 m cm) := ⟨⟨hk hR1.1.1, hk hR1.1.2.1, hk hR1.1.2.2⟩, hk hR1.2⟩
  refine ⟨_, rfl, fun _ _ => hR4, ?_⟩
  refine AnyK.assign (i := 8) may_o (v := .int .i64 ev) (by simp [hsz]) hR4 ?_
  refine AnyK.done (by kernel_rfl) (hK _ _ (hBb _ hb4) ?_ ?_ ?_ ?_)
  · simp only [size_put, hsz]
  · simp only [defers_put]
  · exact (by simp [hsz])
  · intro e h1 h2
    iterate 9 refine (ev_ne (by omega)).trans ?_
    rfl
end
end Go.Proofs.Ytfcnombmphophaa
namespace Go.Proofs.Ytfcnombmphophaa
open Go.RowKit Go.Shelf
/-- What stays in the loops. -/
def HsF (b3 p1 k : Nat) (ow on wa : Int) (v9 v10 v14 v15 v16 : Value) (a : Act) : Prop := a.tmps.size = 169 ∧ a.defers = [] ∧ a.eval (.tmp 1) = .int .i64 ow ∧ a.eval (.tmp 2) = .int .i64 on ∧ a.eval (.tmp 3) = .pointer (some ⟨b3, 0, none⟩) ∧ a.eval (.tmp 7) = .pointer (some ⟨p1, 0, none⟩) ∧ a.eval (.tmp 9) = v9 ∧ a.eval (.tmp 10) = v10 ∧ a.eval (.tmp 12) = .int .i64 wa ∧ a.eval (.tmp 14) = v14 ∧ a.eval (.tmp 15) = v15 ∧ a.eval (.tmp 16) = v16 ∧ a.eval (.tmp 17) = .int .i64 k
section
variable {b3 p1 k i c : Nat} {ow on wa lo hi o t : Int} {v9 v10 v14 v15 v16 : Value} {a1 : Act} {W5 W2 : World} {Q : Exit → Act → World → Prop} {A : Option Addr} {l : List Sale}
theorem hs26 {W : World} (hi1 : i < 2000000) (hf : HsF b3 p1 k ow on wa v9 v10 v14 v15 v16 a1) (u18 : a1.eval (.tmp 18) = .int .i64 lo) (u19 : a1.eval (.tmp 19) = .int .i64 hi) (u20 : a1.eval (.tmp 20) = .int .i64 i)
    (hQ : ∀ a', HsF b3 p1 k ow on wa v9 v10 v14 v15 v16 a' → a'.eval (.tmp 18) = .int .i64 lo → a'.eval (.tmp 19) = .int .i64 hi → a'.eval (.tmp 20) = .int .i64 ((i + 1 : Nat) : Int) → Q .normal a' W) : (Code.region 26 opsHs26 false).wpIn Fence.wide 5 Try.prog Q a1 W := by
  obtain ⟨hz_a1, hd_a1, u1, u2, u3, u7, u9, u10, u12, u14, u15, u16, u17⟩ := hf
  refine region_p 3 ?_
  intro K hK
  refine ListK.move (i := 0) (v := .int .i64 (i : Int)) rfl (by simp [u20]) ?_
  refine ListK.bin (i := 1) (u := .int .i64 (i : Int)) (u' := .int .i64 1) (v := .int .i64 ((i : Int) + 1)) rfl (by simp [hz_a1]) (by simp) (add3 (by omega) (by omega) _) ?_
  refine ListK.assign (i := 2) (v := .int .i64 ((i + 1 : Nat) : Int)) rfl (by simp [hz_a1]) ?_
  skip
  exact ListK.done (hK _ _ (hQ _ ⟨(by simp only [size_put, hz_a1]), (by simp only [defers_put, hd_a1]), (by simp [u1]), (by simp [u2]), (by simp [u3]), (by simp [u7]), (by simp [u9]), (by simp [u10]), (by simp [u12]), (by simp [u14]), (by simp [u15]), (by simp [u16]), (by simp [u17])⟩ (by simp [u18]) (by simp [u19]) (by simp [hz_a1])))
theorem hs28 {W : World} {ev : Int} (hf : HsF b3 p1 k ow on wa v9 v10 v14 v15 v16 a1) (u18 : a1.eval (.tmp 18) = .int .i64 lo) (u19 : a1.eval (.tmp 19) = .int .i64 hi) (u20 : a1.eval (.tmp 20) = .int .i64 i) (u21 : a1.eval (.tmp 21) = .int .i64 ev)
    (hQ : ∀ a', HsF b3 p1 k ow on wa v9 v10 v14 v15 v16 a' → a'.eval (.tmp 18) = .int .i64 (min lo ev) → a'.eval (.tmp 19) = .int .i64 (max hi ev) → a'.eval (.tmp 20) = .int .i64 i → Q .normal a' W) : (Code.region 28 opsHs28 false).wpIn Fence.wide 5 Try.prog Q a1 W := by
  obtain ⟨hz_a1, hd_a1, u1, u2, u3, u7, u9, u10, u12, u14, u15, u16, u17⟩ := hf
  refine region_p 8 ?_
  intro K hK
  refine ListK.move (i := 0) (v := .int .i64 lo) rfl (by simp [u18]) ?_
  refine ListK.move (i := 1) (v := .int .i64 ev) rfl (by simp [u21]) ?_
  refine ListK.bmin (i := 2) (m := lo) (n := ev) rfl (by simp [hz_a1]) (by simp [hz_a1]) ?_
  refine ListK.move (i := 3) (v := .int .i64 hi) rfl (by simp [u19]) ?_
  refine ListK.move (i := 4) (v := .int .i64 ev) rfl (by simp [u21]) ?_
  refine ListK.bmax (i := 5) (m := hi) (n := ev) rfl (by simp [hz_a1]) (by simp [hz_a1]) ?_
  refine ListK.assign (i := 6) (v := .int .i64 (min lo ev)) rfl (by simp [hz_a1]) ?_
  refine ListK.assign (i := 7) (v := .int .i64 (max hi ev)) rfl (by simp [hz_a1]) ?_
  skip
  exact ListK.done (hK _ _ (hQ _ ⟨(by simp only [size_put, hz_a1]), (by simp only [defers_put, hd_a1]), (by simp [u1]), (by simp [u2]), (by simp [u3]), (by simp [u7]), (by simp [u9]), (by simp [u10]), (by simp [u12]), (by simp [u14]), (by simp [u15]), (by simp [u16]), (by simp [u17])⟩ (by simp [hz_a1]) (by simp [hz_a1]) (by simp [u20])))
set_option maxHeartbeats 4000000 in
/-- The truths of an owner. -/
theorem hs_inner (hv : Valid o t l) (hlen : (allL t l).length ≤ 1000000) (hf : HsF b3 p1 k ow on wa v9 v10 v14 v15 v16 a1) (u18 : a1.eval (.tmp 18) = .int .i64 1001) (u19 : a1.eval (.tmp 19) = .int .i64 (-1))
    (wb : Whole W2 b3 24 #[.int .i64 o, .int .i64 t, .slice A l.length c]) (hs : SalesAt W2 W2.heap.size A l) (hL : LL W5 v14 (allL t l) W2)
    (hQ : ∀ a' W', Below W2.heap.size W2 W' → HsF b3 p1 k ow on wa v9 v10 v14 v15 v16 a' → a'.eval (.tmp 18) = .int .i64 (minTo 1001 (eveAt t l k on) (allL t l).length) → a'.eval (.tmp 19) = .int .i64 (maxTo (-1) (eveAt t l k on) (allL t l).length) → Q .normal a' W') :
    (Code.seq (.region 24 opsHs24 false) (.block 2 (.loop hs_m))).wpIn Fence.wide 5 Try.prog Q a1 W2 := by
  have hl8 := hv.len
  have hvt := hv.t0
  have hvt1 := hv.t1
  have hmm : ∀ s, s ∈ l → 0 ≤ s.many ∧ s.many ≤ 1000 := fun s hs => by
    have := saleOk_facts (hv.ok s hs)
    omega
  obtain ⟨A4, c4, rfl⟩ := hL.form
  obtain ⟨hz_a1, hd_a1, u1, u2, u3, u7, u9, u10, u12, u14, u15, u16, u17⟩ := hf
  refine wpIn_seq (region_p 1 ?_)
  intro K hK
  refine ListK.assign (i := 0) (v := .int .i64 0) rfl (by simp) ?_
  refine ListK.done (hK _ _ ?_)
  clear hK K
  refine wpIn_block (wpIn_loop (fun a W' => ∃ i : Nat, i ≤ (allL t l).length ∧ Below W2.heap.size W2 W' ∧ HsF b3 p1 k ow on wa v9 v10 (.slice A4 (allL t l).length c4) v15 v16 a ∧ a.eval (.tmp 18) = .int .i64 (minTo 1001 (eveAt t l k on) i) ∧ a.eval (.tmp 19) = .int .i64 (maxTo (-1) (eveAt t l k on) i) ∧ a.eval (.tmp 20) = .int .i64 i) (fun a _ => (allL t l).length - (intOf (a.eval (.tmp 20))).toNat)
    ⟨0, Nat.zero_le _, Below.refl _ _, ⟨(by simp only [size_put, hz_a1]), (by simp only [defers_put, hd_a1]), (by simp [u1]), (by simp [u2]), (by simp [u3]), (by simp [u7]), (by simp [u9]), (by simp [u10]), (by simp [u12]), (by simp [u14]), (by simp [u15]), (by simp [u16]), (by simp [u17])⟩, (by show _ = Value.int .i64 1001; exact (by simp [u18])), (by show _ = Value.int .i64 (-1); exact (by simp [u19])), (by simp [hz_a1])⟩ ?_)
  clear hz_a1 hd_a1 u1 u2 u3 u7 u9 u10 u12 u14 u15 u16 u17 u18 u19
  rintro b1 W3 ⟨i, hi, hb, ⟨hz_b1, hd_b1, u1, u2, u3, u7, u9, u10, u12, u14, u15, u16, u17⟩, u18, u19, u20⟩
  have hL3 := hL.below hb
  have wb3 := wb.below hb wb.lt
  have hs3 : SalesAt W3 W3.heap.size A l := (hs.below hb (Nat.le_refl _)).more hb.size
  unfold hs_m
  by_cases hil : i < (allL t l).length
  · skip
    have hme : ∀ x : Act, x.eval (.tmp 20) = .int .i64 ((i + 1 : Nat) : Int) → (allL t l).length - (intOf (x.eval (.tmp 20))).toNat < (allL t l).length - (intOf (b1.eval (.tmp 20))).toNat := by
      intro x e
      rw [e, u20]
      simp only [intOf]
      omega
    refine wpIn_seq (wpIn_seq (region_p 4 ?_))
    intro K hK
    refine ListK.move (i := 0) (v := .int .i64 (i : Int)) rfl (by simp [u20]) ?_
    refine ListK.move (i := 1) (v := .slice A4 (allL t l).length c4) rfl (by simp [u14]) ?_
    refine ListK.len (i := 2) (u := .slice A4 (allL t l).length c4) (v := .int .i64 (allL t l).length) rfl (by simp [hz_b1]) (ln49 _ _ _ _ _) rfl ?_
    refine ListK.bin (i := 3) (u := .int .i64 (i : Int)) (u' := .int .i64 (allL t l).length) (v := .bool true) rfl (by simp [hz_b1]) (by simp [hz_b1]) (lssT3 (by omega) _) ?_
    refine ListK.done (hK _ _ ?_)
    clear hK K
    refine wpIn_cond (t := true) (by simp [hz_b1]) (wpIn_skip ?_)
    generalize hA : Act.put _ _ _ = b2
    have hz_b2 : b2.tmps.size = 169 := by rw [← hA]; simp only [size_put, hz_b1]
    have v1 : b2.eval (.tmp 1) = .int .i64 ow := by rw [← hA]; exact (by simp [u1])
    have v2 : b2.eval (.tmp 2) = .int .i64 on := by rw [← hA]; exact (by simp [u2])
    have v3 : b2.eval (.tmp 3) = .pointer (some ⟨b3, 0, none⟩) := by rw [← hA]; exact (by simp [u3])
    have v7 : b2.eval (.tmp 7) = .pointer (some ⟨p1, 0, none⟩) := by rw [← hA]; exact (by simp [u7])
    have v9 : b2.eval (.tmp 9) = v9 := by rw [← hA]; exact (by simp [u9])
    have v10 : b2.eval (.tmp 10) = v10 := by rw [← hA]; exact (by simp [u10])
    have v12 : b2.eval (.tmp 12) = .int .i64 wa := by rw [← hA]; exact (by simp [u12])
    have v14 : b2.eval (.tmp 14) = .slice A4 (allL t l).length c4 := by rw [← hA]; exact (by simp [u14])
    have v15 : b2.eval (.tmp 15) = v15 := by rw [← hA]; exact (by simp [u15])
    have v16 : b2.eval (.tmp 16) = v16 := by rw [← hA]; exact (by simp [u16])
    have v17 : b2.eval (.tmp 17) = .int .i64 (k : Int) := by rw [← hA]; exact (by simp [u17])
    have v18 : b2.eval (.tmp 18) = .int .i64 (minTo 1001 (eveAt t l k on) i) := by rw [← hA]; exact (by simp [u18])
    have v19 : b2.eval (.tmp 19) = .int .i64 (maxTo (-1) (eveAt t l k on) i) := by rw [← hA]; exact (by simp [u19])
    have v20 : b2.eval (.tmp 20) = .int .i64 (i : Int) := by rw [← hA]; exact (by simp [u20])
    have hd_b2 : b2.defers = [] := by rw [← hA]; simp only [defers_put, hd_b1]
    clear hA
    have hxi : (allL t l)[i]? = some (allL t l)[i] := List.getElem?_eq_getElem hil
    have hxl := ((all_iff hv).1 (List.getElem_mem hil)).1
    obtain ⟨g, c', A5, c5, e, hc, hA⟩ := hL3.at hxi
    cases e
    have hday : stockR t l (eveL (allL t l)[i] on (allL t l)[i].length) k = eveAt t l k on i := by
      unfold eveAt
      rw [hxi, Option.getD_some, hxl]
    refine wpIn_seq (wpIn_block (wpIn_seq (regionHs27 (ev := eveAt t l k on i) (wideF_plain _) hz_b2 v2 v3 v14 v17 v20 hil ⟨wb3.cell 0, wb3.cell 1, wb3.cell 2⟩ hc (fun W' hb' => by
      rw [← hday]
      exact evening_any2 o t k on A A5 l _ c c5 W' (by omega) (by omega) (by omega) (by omega) hmm ((hs3.below hb' (Nat.le_refl _)).more hb'.size) ((hA.below hb' (Nat.le_refl _)).more hb'.size)) fun a5 W6 hb6 hz5 hd5 x21 hr => ?_)))
    refine hs28 (lo := minTo 1001 (eveAt t l k on) i) (hi := maxTo (-1) (eveAt t l k on) i) ⟨hz5, hd5.trans hd_b2, (hr 1 (by omega) (by omega)).trans v1, (hr 2 (by omega) (by omega)).trans v2, (hr 3 (by omega) (by omega)).trans v3, (hr 7 (by omega) (by omega)).trans v7, (hr 9 (by omega) (by omega)).trans v9, (hr 10 (by omega) (by omega)).trans v10, (hr 12 (by omega) (by omega)).trans v12, (hr 14 (by omega) (by omega)).trans v14, (hr 15 (by omega) (by omega)).trans v15, (hr 16 (by omega) (by omega)).trans v16, (hr 17 (by omega) (by omega)).trans v17⟩ ((hr 18 (by omega) (by omega)).trans v18) ((hr 19 (by omega) (by omega)).trans v19) ((hr 20 (by omega) (by omega)).trans v20) x21 fun a6 f6 y18 y19 y20 => ?_
    refine hs26 (by omega) f6 y18 y19 y20 fun a7 f7 z18 z19 z20 => ?_
    exact ⟨⟨i + 1, hil, hb.trans (hb6.mono hb.size), f7, z18, z19, z20⟩, hme _ z20⟩
  · skip
    refine wpIn_seq (wpIn_seq (region_p 4 ?_))
    intro K hK
    refine ListK.move (i := 0) (v := .int .i64 (i : Int)) rfl (by simp [u20]) ?_
    refine ListK.move (i := 1) (v := .slice A4 (allL t l).length c4) rfl (by simp [u14]) ?_
    refine ListK.len (i := 2) (u := .slice A4 (allL t l).length c4) (v := .int .i64 (allL t l).length) rfl (by simp [hz_b1]) (ln49 _ _ _ _ _) rfl ?_
    refine ListK.bin (i := 3) (u := .int .i64 (i : Int)) (u' := .int .i64 (allL t l).length) (v := .bool false) rfl (by simp [hz_b1]) (by simp [hz_b1]) (lssF3 (by omega) _) ?_
    refine ListK.done (hK _ _ ?_)
    clear hK K
    refine wpIn_cond (t := false) (by simp [hz_b1]) (wpIn_exit ?_)
    obtain rfl : i = (allL t l).length := by omega
    exact hQ _ W3 hb ⟨(by simp only [size_put, hz_b1]), (by simp only [defers_put, hd_b1]), (by simp [u1]), (by simp [u2]), (by simp [u3]), (by simp [u7]), (by simp [u9]), (by simp [u10]), (by simp [u12]), (by simp [u14]), (by simp [u15]), (by simp [u16]), (by simp [u17])⟩ (by simp [u18]) (by simp [u19])
end
end Go.Proofs.Ytfcnombmphophaa
namespace Go.Proofs.Ytfcnombmphophaa
open Go.RowKit Go.Shelf
section
variable {b3 p1 k i c : Nat} {ow on wa lo hi o t : Int} {v9 v10 v14 v15 v16 : Value} {a1 : Act} {W5 W2 : World} {Q : Exit → Act → World → Prop} {A : Option Addr} {l : List Sale} {xe xs : List Int}
set_option maxHeartbeats 2000000 in
theorem hs_can (hf : HsF b3 p1 k ow on wa v9 v10 v14 v15 v16 a1) (u18 : a1.eval (.tmp 18) = .int .i64 lo) (u19 : a1.eval (.tmp 19) = .int .i64 hi) (hm : RM W5 v15 v16 xe xs W2) (hx : xe.length < 1000)
    (hQ : ∀ a' v15' W', HsF b3 p1 k ow on wa v9 v10 v14 v15' v16 a' → a'.eval (.tmp 18) = .int .i64 lo → a'.eval (.tmp 19) = .int .i64 hi → RM W5 v15' v16 (if 0 < hi then xe ++ [(k : Int)] else xe) xs W' → hs_j.wpIn Fence.wide 5 Try.prog Q a' W') :
    hs_i.wpIn Fence.wide 5 Try.prog Q a1 W2 := by
  obtain ⟨hz_a1, hd_a1, u1, u2, u3, u7, u9, u10, u12, u14, u15, u16, u17⟩ := hf
  unfold hs_i
  by_cases hp : 0 < hi
  · skip
    rw [if_pos hp] at hQ
    refine wpIn_seq (wpIn_seq (region_p 2 ?_))
    intro K hK
    refine ListK.move (i := 0) (v := .int .i64 hi) rfl (by simp [u19]) ?_
    refine ListK.bin (i := 1) (u := .int .i64 hi) (u' := .int .i64 0) (v := .bool true) rfl (by simp [hz_a1]) (by simp) (gtrT3 (by omega) _) ?_
    refine ListK.done (hK _ _ ?_)
    clear hK K
    refine wpIn_cond (t := true) (by simp [hz_a1]) ?_
    generalize hA : Act.put _ _ _ = a2
    have hz_a2 : a2.tmps.size = 169 := by rw [← hA]; simp only [size_put, hz_a1]
    have y1 : a2.eval (.tmp 1) = .int .i64 ow := by rw [← hA]; exact (by simp [u1])
    have y2 : a2.eval (.tmp 2) = .int .i64 on := by rw [← hA]; exact (by simp [u2])
    have y3 : a2.eval (.tmp 3) = .pointer (some ⟨b3, 0, none⟩) := by rw [← hA]; exact (by simp [u3])
    have y7 : a2.eval (.tmp 7) = .pointer (some ⟨p1, 0, none⟩) := by rw [← hA]; exact (by simp [u7])
    have y9 : a2.eval (.tmp 9) = v9 := by rw [← hA]; exact (by simp [u9])
    have y10 : a2.eval (.tmp 10) = v10 := by rw [← hA]; exact (by simp [u10])
    have y12 : a2.eval (.tmp 12) = .int .i64 wa := by rw [← hA]; exact (by simp [u12])
    have y14 : a2.eval (.tmp 14) = v14 := by rw [← hA]; exact (by simp [u14])
    have y15 : a2.eval (.tmp 15) = v15 := by rw [← hA]; exact (by simp [u15])
    have y16 : a2.eval (.tmp 16) = v16 := by rw [← hA]; exact (by simp [u16])
    have y17 : a2.eval (.tmp 17) = .int .i64 (k : Int) := by rw [← hA]; exact (by simp [u17])
    have y18 : a2.eval (.tmp 18) = .int .i64 lo := by rw [← hA]; exact (by simp [u18])
    have y19 : a2.eval (.tmp 19) = .int .i64 hi := by rw [← hA]; exact (by simp [u19])
    have hd_a2 : a2.defers = [] := by rw [← hA]; simp only [defers_put, hd_a1]
    clear hA
    have hm1 := hm.below ((Below.refl _ W2).alloc (Nat.le_refl _) (.cells #[.int .i64 k] 3))
    refine region_p 5 ?_
    intro K hK
    refine ListK.move (i := 0) (v := v15) rfl (by simp [y15]) ?_
    refine ListK.move (i := 1) (v := .int .i64 (k : Int)) rfl (by simp [y17]) ?_
    refine ListK.bsl (i := 2) (ps := #[(0, .int .i64 (k : Int))]) (v := .slice (some ⟨W2.heap.size, 0, none⟩) 1 1) rfl (by simp [hz_a2]) (bs25_1 _ _) ?_
    refine ListK.append (i := 3) rfl hm1.oe (by simp [hz_a2]) ⟨W2.heap.size, 0, none⟩ 1 [.int .i64 k] (by simp [hz_a2]) rfl (news1 (cell_new1 W2 _ _)) (by simp [Value.oneCell']) (by unfold maxLen; omega) (by omega) hm1.low.size ?_
    intro g cap W3 hown hgr hat
    refine ListK.assign (i := 4) (v := .slice (some ⟨g, 0, none⟩) (xe.length + 1) cap) rfl (by simp [hz_a2]) ?_
    skip
    exact ListK.done (hK _ _ (hQ _ _ _ ⟨(by simp only [size_put, hz_a2]), (by simp only [defers_put, hd_a2]), (by simp [y1]), (by simp [y2]), (by simp [y3]), (by simp [y7]), (by simp [y9]), (by simp [y10]), (by simp [y12]), (by simp [y14]), (by simp [hz_a2]), (by simp [y16]), (by simp [y17])⟩ (by simp [y18]) (by simp [y19]) (hm1.appE hown hgr hat)))
  · skip
    rw [if_neg hp] at hQ
    refine wpIn_seq (wpIn_seq (region_p 2 ?_))
    intro K hK
    refine ListK.move (i := 0) (v := .int .i64 hi) rfl (by simp [u19]) ?_
    refine ListK.bin (i := 1) (u := .int .i64 hi) (u' := .int .i64 0) (v := .bool false) rfl (by simp [hz_a1]) (by simp) (gtrF3 (by omega) _) ?_
    refine ListK.done (hK _ _ ?_)
    clear hK K
    refine wpIn_cond (t := false) (by simp [hz_a1]) (wpIn_skip ?_)
    generalize hA : Act.put _ _ _ = a2
    have hz_a2 : a2.tmps.size = 169 := by rw [← hA]; simp only [size_put, hz_a1]
    have y1 : a2.eval (.tmp 1) = .int .i64 ow := by rw [← hA]; exact (by simp [u1])
    have y2 : a2.eval (.tmp 2) = .int .i64 on := by rw [← hA]; exact (by simp [u2])
    have y3 : a2.eval (.tmp 3) = .pointer (some ⟨b3, 0, none⟩) := by rw [← hA]; exact (by simp [u3])
    have y7 : a2.eval (.tmp 7) = .pointer (some ⟨p1, 0, none⟩) := by rw [← hA]; exact (by simp [u7])
    have y9 : a2.eval (.tmp 9) = v9 := by rw [← hA]; exact (by simp [u9])
    have y10 : a2.eval (.tmp 10) = v10 := by rw [← hA]; exact (by simp [u10])
    have y12 : a2.eval (.tmp 12) = .int .i64 wa := by rw [← hA]; exact (by simp [u12])
    have y14 : a2.eval (.tmp 14) = v14 := by rw [← hA]; exact (by simp [u14])
    have y15 : a2.eval (.tmp 15) = v15 := by rw [← hA]; exact (by simp [u15])
    have y16 : a2.eval (.tmp 16) = v16 := by rw [← hA]; exact (by simp [u16])
    have y17 : a2.eval (.tmp 17) = .int .i64 (k : Int) := by rw [← hA]; exact (by simp [u17])
    have y18 : a2.eval (.tmp 18) = .int .i64 lo := by rw [← hA]; exact (by simp [u18])
    have y19 : a2.eval (.tmp 19) = .int .i64 hi := by rw [← hA]; exact (by simp [u19])
    have hd_a2 : a2.defers = [] := by rw [← hA]; simp only [defers_put, hd_a1]
    clear hA
    exact hQ _ _ _ ⟨hz_a2, hd_a2, y1, y2, y3, y7, y9, y10, y12, y14, y15, y16, y17⟩ y18 y19 hm
set_option maxHeartbeats 2000000 in
theorem hs_sure (hf : HsF b3 p1 k ow on wa v9 v10 v14 v15 v16 a1) (u18 : a1.eval (.tmp 18) = .int .i64 lo) (u19 : a1.eval (.tmp 19) = .int .i64 hi) (hm : RM W5 v15 v16 xe xs W2) (hx : xs.length < 1000)
    (hQ : ∀ a' v16' W', HsF b3 p1 k ow on wa v9 v10 v14 v15 v16' a' → a'.eval (.tmp 18) = .int .i64 lo → a'.eval (.tmp 19) = .int .i64 hi → RM W5 v15 v16' xe (if 0 < lo then xs ++ [(k : Int)] else xs) W' → hs_k.wpIn Fence.wide 5 Try.prog Q a' W') :
    hs_j.wpIn Fence.wide 5 Try.prog Q a1 W2 := by
  obtain ⟨hz_a1, hd_a1, u1, u2, u3, u7, u9, u10, u12, u14, u15, u16, u17⟩ := hf
  unfold hs_j
  by_cases hp : 0 < lo
  · skip
    rw [if_pos hp] at hQ
    refine wpIn_seq (wpIn_seq (region_p 2 ?_))
    intro K hK
    refine ListK.move (i := 0) (v := .int .i64 lo) rfl (by simp [u18]) ?_
    refine ListK.bin (i := 1) (u := .int .i64 lo) (u' := .int .i64 0) (v := .bool true) rfl (by simp [hz_a1]) (by simp) (gtrT3 (by omega) _) ?_
    refine ListK.done (hK _ _ ?_)
    clear hK K
    refine wpIn_cond (t := true) (by simp [hz_a1]) ?_
    generalize hA : Act.put _ _ _ = a2
    have hz_a2 : a2.tmps.size = 169 := by rw [← hA]; simp only [size_put, hz_a1]
    have y1 : a2.eval (.tmp 1) = .int .i64 ow := by rw [← hA]; exact (by simp [u1])
    have y2 : a2.eval (.tmp 2) = .int .i64 on := by rw [← hA]; exact (by simp [u2])
    have y3 : a2.eval (.tmp 3) = .pointer (some ⟨b3, 0, none⟩) := by rw [← hA]; exact (by simp [u3])
    have y7 : a2.eval (.tmp 7) = .pointer (some ⟨p1, 0, none⟩) := by rw [← hA]; exact (by simp [u7])
    have y9 : a2.eval (.tmp 9) = v9 := by rw [← hA]; exact (by simp [u9])
    have y10 : a2.eval (.tmp 10) = v10 := by rw [← hA]; exact (by simp [u10])
    have y12 : a2.eval (.tmp 12) = .int .i64 wa := by rw [← hA]; exact (by simp [u12])
    have y14 : a2.eval (.tmp 14) = v14 := by rw [← hA]; exact (by simp [u14])
    have y15 : a2.eval (.tmp 15) = v15 := by rw [← hA]; exact (by simp [u15])
    have y16 : a2.eval (.tmp 16) = v16 := by rw [← hA]; exact (by simp [u16])
    have y17 : a2.eval (.tmp 17) = .int .i64 (k : Int) := by rw [← hA]; exact (by simp [u17])
    have y18 : a2.eval (.tmp 18) = .int .i64 lo := by rw [← hA]; exact (by simp [u18])
    have y19 : a2.eval (.tmp 19) = .int .i64 hi := by rw [← hA]; exact (by simp [u19])
    have hd_a2 : a2.defers = [] := by rw [← hA]; simp only [defers_put, hd_a1]
    clear hA
    have hm1 := hm.below ((Below.refl _ W2).alloc (Nat.le_refl _) (.cells #[.int .i64 k] 3))
    refine region_p 5 ?_
    intro K hK
    refine ListK.move (i := 0) (v := v16) rfl (by simp [y16]) ?_
    refine ListK.move (i := 1) (v := .int .i64 (k : Int)) rfl (by simp [y17]) ?_
    refine ListK.bsl (i := 2) (ps := #[(0, .int .i64 (k : Int))]) (v := .slice (some ⟨W2.heap.size, 0, none⟩) 1 1) rfl (by simp [hz_a2]) (bs25_1 _ _) ?_
    refine ListK.append (i := 3) rfl hm1.os (by simp [hz_a2]) ⟨W2.heap.size, 0, none⟩ 1 [.int .i64 k] (by simp [hz_a2]) rfl (news1 (cell_new1 W2 _ _)) (by simp [Value.oneCell']) (by unfold maxLen; omega) (by omega) hm1.low.size ?_
    intro g cap W3 hown hgr hat
    refine ListK.assign (i := 4) (v := .slice (some ⟨g, 0, none⟩) (xs.length + 1) cap) rfl (by simp [hz_a2]) ?_
    skip
    exact ListK.done (hK _ _ (hQ _ _ _ ⟨(by simp only [size_put, hz_a2]), (by simp only [defers_put, hd_a2]), (by simp [y1]), (by simp [y2]), (by simp [y3]), (by simp [y7]), (by simp [y9]), (by simp [y10]), (by simp [y12]), (by simp [y14]), (by simp [y15]), (by simp [hz_a2]), (by simp [y17])⟩ (by simp [y18]) (by simp [y19]) (hm1.appS hown hgr hat)))
  · skip
    rw [if_neg hp] at hQ
    refine wpIn_seq (wpIn_seq (region_p 2 ?_))
    intro K hK
    refine ListK.move (i := 0) (v := .int .i64 lo) rfl (by simp [u18]) ?_
    refine ListK.bin (i := 1) (u := .int .i64 lo) (u' := .int .i64 0) (v := .bool false) rfl (by simp [hz_a1]) (by simp) (gtrF3 (by omega) _) ?_
    refine ListK.done (hK _ _ ?_)
    clear hK K
    refine wpIn_cond (t := false) (by simp [hz_a1]) (wpIn_skip ?_)
    generalize hA : Act.put _ _ _ = a2
    have hz_a2 : a2.tmps.size = 169 := by rw [← hA]; simp only [size_put, hz_a1]
    have y1 : a2.eval (.tmp 1) = .int .i64 ow := by rw [← hA]; exact (by simp [u1])
    have y2 : a2.eval (.tmp 2) = .int .i64 on := by rw [← hA]; exact (by simp [u2])
    have y3 : a2.eval (.tmp 3) = .pointer (some ⟨b3, 0, none⟩) := by rw [← hA]; exact (by simp [u3])
    have y7 : a2.eval (.tmp 7) = .pointer (some ⟨p1, 0, none⟩) := by rw [← hA]; exact (by simp [u7])
    have y9 : a2.eval (.tmp 9) = v9 := by rw [← hA]; exact (by simp [u9])
    have y10 : a2.eval (.tmp 10) = v10 := by rw [← hA]; exact (by simp [u10])
    have y12 : a2.eval (.tmp 12) = .int .i64 wa := by rw [← hA]; exact (by simp [u12])
    have y14 : a2.eval (.tmp 14) = v14 := by rw [← hA]; exact (by simp [u14])
    have y15 : a2.eval (.tmp 15) = v15 := by rw [← hA]; exact (by simp [u15])
    have y16 : a2.eval (.tmp 16) = v16 := by rw [← hA]; exact (by simp [u16])
    have y17 : a2.eval (.tmp 17) = .int .i64 (k : Int) := by rw [← hA]; exact (by simp [u17])
    have y18 : a2.eval (.tmp 18) = .int .i64 lo := by rw [← hA]; exact (by simp [u18])
    have y19 : a2.eval (.tmp 19) = .int .i64 hi := by rw [← hA]; exact (by simp [u19])
    have hd_a2 : a2.defers = [] := by rw [← hA]; simp only [defers_put, hd_a1]
    clear hA
    exact hQ _ _ _ ⟨hz_a2, hd_a2, y1, y2, y3, y7, y9, y10, y12, y14, y15, y16, y17⟩ y18 y19 hm
end
end Go.Proofs.Ytfcnombmphophaa
namespace Go.Proofs.Ytfcnombmphophaa
open Go.RowKit Go.Shelf
section
variable {b3 p1 k i c : Nat} {ow on wa lo hi o t x y : Int} {v9 v10 v14 v15 v16 : Value} {a1 : Act} {W5 W2 : World} {Q : Exit → Act → World → Prop} {A : Option Addr} {l : List Sale}
set_option maxHeartbeats 2000000 in
theorem hs_check (hf : HsF b3 p1 k ow on wa v9 v10 v14 v15 v16 a1) (u18 : a1.eval (.tmp 18) = .int .i64 lo) (u19 : a1.eval (.tmp 19) = .int .i64 hi) (wr : Whole W2 p1 46 #[.int .i64 x, .int .i64 y]) (hxy : (k : Int) = ow → x = lo ∧ y = hi)
    (hQ : ∀ a', HsF b3 p1 k ow on wa v9 v10 v14 v15 v16 a' → Q .normal a' W2) : hs_k.wpIn Fence.wide 5 Try.prog Q a1 W2 := by
  obtain ⟨hz_a1, hd_a1, u1, u2, u3, u7, u9, u10, u12, u14, u15, u16, u17⟩ := hf
  unfold hs_k
  by_cases he : (k : Int) = ow
  · obtain ⟨h1, h2⟩ := hxy he
    refine wpIn_seq (region_p 10 ?_)
    intro K hK
    refine ListK.move (i := 0) (v := .int .i64 (k : Int)) rfl (by simp [u17]) ?_
    refine ListK.move (i := 1) (v := .int .i64 ow) rfl (by simp [u1]) ?_
    refine ListK.bin (i := 2) (u := .int .i64 (k : Int)) (u' := .int .i64 ow) (v := .bool true) rfl (by simp [hz_a1]) (by simp [hz_a1]) (eql3T he _) ?_
    refine ListK.move (i := 3) (v := .bool true) rfl (by simp [hz_a1]) ?_
    refine ListK.load (i := 4) (p := ⟨p1, 0, none⟩) (v := .agg #[.int .i64 x, .int .i64 y]) rfl (by simp [u7]) (ld46 ⟨wr.cell 0, wr.cell 1⟩) ?_ (hw := wanted_g (e := 142) (b' := true) rfl (by simp [hz_a1]) rfl)
    refine ListK.move (i := 5) (v := .int .i64 lo) rfl (by simp [u18]) ?_ (hw := wanted_g (e := 142) (b' := true) rfl (by simp [hz_a1]) rfl)
    refine ListK.move (i := 6) (v := .int .i64 hi) rfl (by simp [u19]) ?_ (hw := wanted_g (e := 142) (b' := true) rfl (by simp [hz_a1]) rfl)
    refine ListK.bldW (i := 7) (ps := #[(0, .int .i64 lo), (1, .int .i64 hi)]) (v := .agg #[.int .i64 lo, .int .i64 hi]) rfl (by simp [hz_a1]) (bd46 _ _ _) ?_ (hw := wanted_g (e := 142) (b' := true) rfl (by simp [hz_a1]) rfl)
    refine ListK.bin (i := 8) (u := .agg #[.int .i64 x, .int .i64 y]) (u' := .agg #[.int .i64 lo, .int .i64 hi]) (v := .bool false) rfl (by simp [hz_a1]) (by simp [hz_a1]) (neq46S h1 h2 _) ?_ (hw := wanted_g (e := 142) (b' := true) rfl (by simp [hz_a1]) rfl)
    refine ListK.pick (i := 9) (b := true) (v := .bool false) rfl (by simp [hz_a1]) (by simp [hz_a1]) ?_
    refine ListK.done (hK _ _ ?_)
    clear hK K
    refine wpIn_cond (t := false) (by simp [hz_a1]) (wpIn_skip ?_)
    exact hQ _ ⟨(by simp only [size_put, hz_a1]), (by simp only [defers_put, hd_a1]), (by simp [u1]), (by simp [u2]), (by simp [u3]), (by simp [u7]), (by simp [u9]), (by simp [u10]), (by simp [u12]), (by simp [u14]), (by simp [u15]), (by simp [u16]), (by simp [u17])⟩
  · skip
    refine wpIn_seq (region_p 10 ?_)
    intro K hK
    refine ListK.move (i := 0) (v := .int .i64 (k : Int)) rfl (by simp [u17]) ?_
    refine ListK.move (i := 1) (v := .int .i64 ow) rfl (by simp [u1]) ?_
    refine ListK.bin (i := 2) (u := .int .i64 (k : Int)) (u' := .int .i64 ow) (v := .bool false) rfl (by simp [hz_a1]) (by simp [hz_a1]) (eql3F he _) ?_
    refine ListK.move (i := 3) (v := .bool false) rfl (by simp [hz_a1]) ?_
    refine ListK.passG (i := 4) (e := 142) (b' := false) rfl rfl (by simp [hz_a1]) rfl ?_
    refine ListK.passG (i := 5) (e := 142) (b' := false) rfl rfl (by simp [hz_a1]) rfl ?_
    refine ListK.passG (i := 6) (e := 142) (b' := false) rfl rfl (by simp [hz_a1]) rfl ?_
    refine ListK.passG (i := 7) (e := 142) (b' := false) rfl rfl (by simp [hz_a1]) rfl ?_
    refine ListK.passG (i := 8) (e := 142) (b' := false) rfl rfl (by simp [hz_a1]) rfl ?_
    refine ListK.pick (i := 9) (b := false) (v := .bool false) rfl (by simp [hz_a1]) (by simp) ?_
    refine ListK.done (hK _ _ ?_)
    clear hK K
    refine wpIn_cond (t := false) (by simp [hz_a1]) (wpIn_skip ?_)
    exact hQ _ ⟨(by simp only [size_put, hz_a1]), (by simp only [defers_put, hd_a1]), (by simp [u1]), (by simp [u2]), (by simp [u3]), (by simp [u7]), (by simp [u9]), (by simp [u10]), (by simp [u12]), (by simp [u14]), (by simp [u15]), (by simp [u16]), (by simp [u17])⟩
theorem hs22 {W : World} (hk : k < 1000) (hf : HsF b3 p1 k ow on wa v9 v10 v14 v15 v16 a1) (hQ : ∀ a', HsF b3 p1 (k + 1) ow on wa v9 v10 v14 v15 v16 a' → Q .normal a' W) : (Code.region 22 opsHs22 false).wpIn Fence.wide 5 Try.prog Q a1 W := by
  obtain ⟨hz_a1, hd_a1, u1, u2, u3, u7, u9, u10, u12, u14, u15, u16, u17⟩ := hf
  refine region_p 3 ?_
  intro K hK
  refine ListK.move (i := 0) (v := .int .i64 (k : Int)) rfl (by simp [u17]) ?_
  refine ListK.bin (i := 1) (u := .int .i64 (k : Int)) (u' := .int .i64 1) (v := .int .i64 ((k : Int) + 1)) rfl (by simp [hz_a1]) (by simp) (add3 (by omega) (by omega) _) ?_
  refine ListK.assign (i := 2) (v := .int .i64 ((k + 1 : Nat) : Int)) rfl (by simp [hz_a1]) ?_
  skip
  exact ListK.done (hK _ _ (hQ _ ⟨(by simp only [size_put, hz_a1]), (by simp only [defers_put, hd_a1]), (by simp [u1]), (by simp [u2]), (by simp [u3]), (by simp [u7]), (by simp [u9]), (by simp [u10]), (by simp [u12]), (by simp [u14]), (by simp [u15]), (by simp [u16]), (by simp [hz_a1])⟩))
set_option maxHeartbeats 2000000 in
theorem hs_owner (hv : Valid o t l) (hF : fitsB t l = true) (h0 : 0 ≤ on) (h1 : on ≤ 100) (hko : (k : Int) < o) (hlen : (allL t l).length ≤ 1000000) (hf : HsF b3 p1 k ow on wa v9 v10 v14 v15 v16 a1)
    (wb : Whole W5 b3 24 #[.int .i64 o, .int .i64 t, .slice A l.length c]) (hs : SalesAt W5 W5.heap.size A l) {W0 : World} (hL : LL W0 v14 (allL t l) W5) (wr : Whole W5 p1 46 #[.int .i64 x, .int .i64 y]) (hxy : (k : Int) = ow → x = (holdsR t l k on).1 ∧ y = (holdsR t l k on).2)
    (hm : RM W5 v15 v16 (canTo t l on k) (sureTo t l on k) W2)
    (hQ : ∀ a' W' v15' v16', HsF b3 p1 k ow on wa v9 v10 v14 v15' v16' a' → RM W5 v15' v16' (canTo t l on (k + 1)) (sureTo t l on (k + 1)) W' → Q .normal a' W') :
    (Code.seq (.region 23 opsHs23 false) (.seq (.seq (.region 24 opsHs24 false) (.block 2 (.loop hs_m))) hs_i)).wpIn Fence.wide 5 Try.prog Q a1 W2 := by
  have ho6 := hv.o6
  obtain ⟨hz_a1, hd_a1, u1, u2, u3, u7, u9, u10, u12, u14, u15, u16, u17⟩ := hf
  obtain ⟨e1, e2⟩ := holds_law hv hF h0 h1 hko
  have hb := hm.low
  refine wpIn_seq (region_p 2 ?_)
  intro K hK
  refine ListK.assign (i := 0) (v := .int .i64 1001) rfl (by simp) ?_
  refine ListK.assign (i := 1) (v := .int .i64 (-1)) rfl (by simp) ?_
  refine ListK.done (hK _ _ ?_)
  clear hK K
  refine wpIn_seq (hs_inner (p1 := p1) (k := k) (ow := ow) (on := on) (wa := wa) (v9 := v9) (v10 := v10) (v15 := v15) (v16 := v16) hv hlen ⟨(by simp only [size_put, hz_a1]), (by simp only [defers_put, hd_a1]), (by simp [u1]), (by simp [u2]), (by simp [u3]), (by simp [u7]), (by simp [u9]), (by simp [u10]), (by simp [u12]), (by simp [u14]), (by simp [u15]), (by simp [u16]), (by simp [u17])⟩ (by simp [hz_a1]) (by simp [hz_a1]) (wb.below hb wb.lt) ((hs.below hb (Nat.le_refl _)).more hb.size) (hL.below hb) fun a3 W3 hb3 f3 y18 y19 => ?_)
  rw [e1] at y18
  rw [e2] at y19
  have hm3 := hm.below hb3
  refine hs_can f3 y18 y19 hm3 (by have := canTo_length t l on k; omega) fun a4 v15' W4 f4 z18 z19 hm4 => ?_
  refine hs_sure f4 z18 z19 hm4 (by have := sureTo_length t l on k; omega) fun a5 v16' W6 f5 q18 q19 hm5 => ?_
  refine hs_check f5 q18 q19 (wr.below hm5.low wr.lt) hxy fun a6 f6 => hQ _ _ _ _ f6 ?_
  unfold canTo sureTo
  exact hm5
end
end Go.Proofs.Ytfcnombmphophaa
namespace Go.Proofs.Ytfcnombmphophaa
open Go.RowKit Go.Shelf
section
variable {b3 p1 c O : Nat} {ow on wa o t x y : Int} {v9 v10 v14 : Value} {a1 : Act} {W5 : World} {Q : Exit → Act → World → Prop} {A : Option Addr} {l : List Sale}
set_option maxHeartbeats 4000000 in
theorem hs_loop (hv : Valid o t l) (hF : fitsB t l = true) (h0 : 0 ≤ on) (h1 : on ≤ 100) (hO : o = O) (hlen : (allL t l).length ≤ 1000000)
    (hz_a1 : a1.tmps.size = 169) (hd_a1 : a1.defers = []) (u1 : a1.eval (.tmp 1) = .int .i64 ow) (u2 : a1.eval (.tmp 2) = .int .i64 on) (u3 : a1.eval (.tmp 3) = .pointer (some ⟨b3, 0, none⟩)) (u7 : a1.eval (.tmp 7) = .pointer (some ⟨p1, 0, none⟩)) (u9 : a1.eval (.tmp 9) = v9) (u10 : a1.eval (.tmp 10) = v10) (u12 : a1.eval (.tmp 12) = .int .i64 wa) (u14 : a1.eval (.tmp 14) = v14) (u15 : a1.eval (.tmp 15) = .slice none 0 0) (u16 : a1.eval (.tmp 16) = .slice none 0 0)
    (wb : Whole W5 b3 24 #[.int .i64 o, .int .i64 t, .slice A l.length c]) (hs : SalesAt W5 W5.heap.size A l) {W0 : World} (hL : LL W0 v14 (allL t l) W5) (wr : Whole W5 p1 46 #[.int .i64 x, .int .i64 y]) (hxy : ∀ k : Nat, (k : Int) < o → (k : Int) = ow → x = (holdsR t l k on).1 ∧ y = (holdsR t l k on).2)
    (hQ : ∀ a' W' v15' v16', HsF b3 p1 O ow on wa v9 v10 v14 v15' v16' a' → RM W5 v15' v16' (canTo t l on O) (sureTo t l on O) W' → Q .normal a' W') :
    (Code.seq (.region 20 opsHs20 false) (.block 0 (.loop hs_l))).wpIn Fence.wide 5 Try.prog Q a1 W5 := by
  have ho6 := hv.o6
  refine wpIn_seq (region_p 1 ?_)
  intro K hK
  refine ListK.assign (i := 0) (v := .int .i64 0) rfl (by simp) ?_
  refine ListK.done (hK _ _ ?_)
  clear hK K
  refine wpIn_block (wpIn_loop (fun a W' => ∃ (k : Nat) (v15 v16 : Value), k ≤ O ∧ HsF b3 p1 k ow on wa v9 v10 v14 v15 v16 a ∧ RM W5 v15 v16 (canTo t l on k) (sureTo t l on k) W') (fun a _ => O - (intOf (a.eval (.tmp 17))).toNat)
    ⟨0, .slice none 0 0, .slice none 0 0, Nat.zero_le _, ⟨(by simp only [size_put, hz_a1]), (by simp only [defers_put, hd_a1]), (by simp [u1]), (by simp [u2]), (by simp [u3]), (by simp [u7]), (by simp [u9]), (by simp [u10]), (by simp [u12]), (by simp [u14]), (by simp [u15]), (by simp [u16]), (by simp [hz_a1])⟩, ⟨Below.refl _ _, World.ownsRow_nil _ _ _ _, World.ownsRow_nil _ _ _ _, .inl rfl⟩⟩ ?_)
  clear hz_a1 hd_a1 u1 u2 u3 u7 u9 u10 u12 u14 u15 u16
  rintro b1 W3 ⟨k, v15, v16, hk, ⟨hz_b1, hd_b1, u1, u2, u3, u7, u9, u10, u12, u14, u15, u16, u17⟩, hm⟩
  have wb3 := wb.below hm.low wb.lt
  unfold hs_l
  by_cases hko : (k : Int) < o
  · skip
    refine wpIn_seq (wpIn_seq (region_p 4 ?_))
    intro K hK
    refine ListK.move (i := 0) (v := .int .i64 (k : Int)) rfl (by simp [u17]) ?_
    refine ListK.field (i := 1) (u := .pointer (some ⟨b3, 0, none⟩)) (v := .pointer (some ⟨b3, 0, none⟩)) rfl (by simp [u3]) (fa24_0 _) ?_
    refine ListK.load (i := 2) (p := ⟨b3, 0, none⟩) (v := .int .i64 o) rfl (by simp [hz_b1]) (ld3 (wb3.cell 0)) ?_
    refine ListK.bin (i := 3) (u := .int .i64 (k : Int)) (u' := .int .i64 o) (v := .bool true) rfl (by simp [hz_b1]) (by simp [hz_b1]) (lssT3 hko _) ?_
    refine ListK.done (hK _ _ ?_)
    clear hK K
    refine wpIn_cond (t := true) (by simp [hz_b1]) (wpIn_skip ?_)
    refine wpIn_seq (wpIn_block (hs_owner (b3 := b3) (p1 := p1) (ow := ow) (wa := wa) (v9 := v9) (v10 := v10) (v14 := v14) (v15 := v15) (v16 := v16) hv hF h0 h1 hko hlen ⟨(by simp only [size_put, hz_b1]), (by simp only [defers_put, hd_b1]), (by simp [u1]), (by simp [u2]), (by simp [u3]), (by simp [u7]), (by simp [u9]), (by simp [u10]), (by simp [u12]), (by simp [u14]), (by simp [u15]), (by simp [u16]), (by simp [u17])⟩ wb hs hL wr (hxy k hko) hm fun a' W' v15' v16' f' m' => ?_))
    refine hs22 (by omega) f' fun a2 f2 => ?_
    refine ⟨⟨k + 1, v15', v16', by omega, f2, m'⟩, ?_⟩
    rw [f2.2.2.2.2.2.2.2.2.2.2.2.2, u17]
    simp only [intOf]
    omega
  · skip
    refine wpIn_seq (wpIn_seq (region_p 4 ?_))
    intro K hK
    refine ListK.move (i := 0) (v := .int .i64 (k : Int)) rfl (by simp [u17]) ?_
    refine ListK.field (i := 1) (u := .pointer (some ⟨b3, 0, none⟩)) (v := .pointer (some ⟨b3, 0, none⟩)) rfl (by simp [u3]) (fa24_0 _) ?_
    refine ListK.load (i := 2) (p := ⟨b3, 0, none⟩) (v := .int .i64 o) rfl (by simp [hz_b1]) (ld3 (wb3.cell 0)) ?_
    refine ListK.bin (i := 3) (u := .int .i64 (k : Int)) (u' := .int .i64 o) (v := .bool false) rfl (by simp [hz_b1]) (by simp [hz_b1]) (lssF3 hko _) ?_
    refine ListK.done (hK _ _ ?_)
    clear hK K
    refine wpIn_cond (t := false) (by simp [hz_b1]) (wpIn_exit ?_)
    obtain rfl : k = O := by omega
    exact hQ _ W3 v15 v16 ⟨(by simp only [size_put, hz_b1]), (by simp only [defers_put, hd_b1]), (by simp [u1]), (by simp [u2]), (by simp [u3]), (by simp [u7]), (by simp [u9]), (by simp [u10]), (by simp [u12]), (by simp [u14]), (by simp [u15]), (by simp [u16]), (by simp [u17])⟩ hm
end
end Go.Proofs.Ytfcnombmphophaa
namespace Go.Proofs.Ytfcnombmphophaa
open Go.RowKit Go.Shelf
section
variable {p1 c9 c10 c15 c16 : Nat} {wa x y : Int} {A9 A10 A15 A16 : Option Addr} {a1 : Act} {W W2 : World} {xC xS : List Int}
set_option maxHeartbeats 4000000 in
theorem hs_end (hwa : wa ≠ 0 → x = 0 ∧ y = 0) (hz_a1 : a1.tmps.size = 169) (hd_a1 : a1.defers = []) (u7 : a1.eval (.tmp 7) = .pointer (some ⟨p1, 0, none⟩)) (u9 : a1.eval (.tmp 9) = .slice A9 xC.length c9) (u10 : a1.eval (.tmp 10) = .slice A10 xS.length c10) (u12 : a1.eval (.tmp 12) = .int .i64 wa) (u15 : a1.eval (.tmp 15) = .slice A15 xC.length c15) (u16 : a1.eval (.tmp 16) = .slice A16 xS.length c16)
    (wr : Whole W2 p1 46 #[.int .i64 x, .int .i64 y]) (hB1 : Below W.heap.size W W2) (h9 : IntsAt W2 W2.heap.size A9 xC) (h10 : IntsAt W2 W2.heap.size A10 xS) (h15 : IntsAt W2 W2.heap.size A15 xC) (h16 : IntsAt W2 W2.heap.size A16 xS) (hlC : xC.length ≤ 1000) (hlS : xS.length ≤ 1000)
    (hsC : sameL xC xC = true) (hsS : sameL xS xS = true) : hs_h.wpIn Fence.wide 5 Try.prog (bodyPost Try.prog Try.f6 (TP W true)) a1 W2 := by
  have hret : ∀ (a' : Act) (W' : World), a'.defers = [] → a'.eval (.tmp 6) = .bool true → Below W.heap.size W W' → bodyPost Try.prog Try.f6 (TP W true) .ret a' W' := fun a' W' hd h4 hb =>
    bodyPost_ret (v := .bool true) (res1 Try.results6 h4) hd ⟨rfl, hb⟩
  unfold hs_h
  have hc1 := ints_any A9 A15 c9 c15 xC xC W2 (by omega) h9 h15
  rw [hsC] at hc1
  have hc2 : ∀ W3, Below W2.heap.size W2 W3 → Calls Try.prog 25 #[.slice A10 xS.length c10, .slice A16 xS.length c16] W3 (TP W3 true) := fun W3 hb => by
    have := ints_any A10 A16 c10 c16 xS xS W3 (by omega) ((h10.below hb (Nat.le_refl _)).more hb.size) ((h16.below hb (Nat.le_refl _)).more hb.size)
    rw [hsS] at this
    exact this
  by_cases h0 : wa = 0
  · skip
    refine wpIn_seq (region_p 21 ?_)
    intro K hK
    refine ListK.move (i := 0) (v := .int .i64 wa) rfl (by simp [u12]) ?_
    refine ListK.bin (i := 1) (u := .int .i64 wa) (u' := .int .i64 0) (v := .bool true) rfl (by simp [hz_a1]) (by simp) (eql27T h0 _) ?_
    refine ListK.move (i := 2) (v := .bool true) rfl (by simp [hz_a1]) ?_
    refine ListK.passG (i := 3) (e := 151) (b' := true) rfl rfl (by simp [hz_a1]) rfl ?_
    refine ListK.passG (i := 4) (e := 151) (b' := true) rfl rfl (by simp [hz_a1]) rfl ?_
    refine ListK.passG (i := 5) (e := 151) (b' := true) rfl rfl (by simp [hz_a1]) rfl ?_
    refine ListK.pick (i := 6) (b := true) (v := .bool true) rfl (by simp [hz_a1]) (by simp) ?_
    refine ListK.move (i := 7) (v := .bool true) rfl (by simp [hz_a1]) ?_
    refine ListK.move (i := 8) (v := .slice A9 xC.length c9) rfl (by simp [u9]) ?_ (hw := wanted_g (e := 156) (b' := true) rfl (by simp [hz_a1]) rfl)
    refine ListK.move (i := 9) (v := .slice A15 xC.length c15) rfl (by simp [u15]) ?_ (hw := wanted_g (e := 156) (b' := true) rfl (by simp [hz_a1]) rfl)
    refine ListK.call (i := 10) (vs := #[.slice A9 xC.length c9, .slice A15 xC.length c15]) rfl (enters_of Try.func25 (by kernel_rfl) rfl) (by simp [hz_a1]) ((hc1).mono ?_) (hw := wanted_g (e := 156) (b' := true) rfl (by simp [hz_a1]) rfl)
    rintro _ W3 ⟨rfl, hb3⟩
    refine ⟨_, rfl, ?_⟩
    refine ListK.pick (i := 11) (b := true) (v := .bool true) rfl (by simp [hz_a1]) (by simp [hz_a1]) ?_
    refine ListK.move (i := 12) (v := .bool true) rfl (by simp [hz_a1]) ?_
    refine ListK.move (i := 13) (v := .slice A10 xS.length c10) rfl (by simp [u10]) ?_ (hw := wanted_g (e := 161) (b' := true) rfl (by simp [hz_a1]) rfl)
    refine ListK.move (i := 14) (v := .slice A16 xS.length c16) rfl (by simp [u16]) ?_ (hw := wanted_g (e := 161) (b' := true) rfl (by simp [hz_a1]) rfl)
    refine ListK.call (i := 15) (vs := #[.slice A10 xS.length c10, .slice A16 xS.length c16]) rfl (enters_of Try.func25 (by kernel_rfl) rfl) (by simp [hz_a1]) (((hc2 W3 hb3)).mono ?_) (hw := wanted_g (e := 161) (b' := true) rfl (by simp [hz_a1]) rfl)
    rintro _ W4 ⟨rfl, hb4⟩
    refine ⟨_, rfl, ?_⟩
    refine ListK.pick (i := 16) (b := true) (v := .bool true) rfl (by simp [hz_a1]) (by simp [hz_a1]) ?_
    refine ListK.move (i := 17) (v := .bool true) rfl (by simp [hz_a1]) ?_
    refine ListK.call (i := 18) (vs := #[]) rfl (enters_of Try.func16 (by kernel_rfl) rfl) (by simp) (((wakes_any W4)).mono ?_) (hw := wanted_g (e := 166) (b' := true) rfl (by simp [hz_a1]) rfl)
    rintro _ W5 ⟨rfl, hb5⟩
    refine ⟨_, rfl, ?_⟩
    refine ListK.pick (i := 19) (b := true) (v := .bool true) rfl (by simp [hz_a1]) (by simp [hz_a1]) ?_
    refine ListK.assign (i := 20) (v := .bool true) rfl (by simp [hz_a1]) ?_
    refine ListK.done (hK _ _ (wpIn_ret ?_))
    have hb24 := hb3.trans (hb4.mono hb3.size)
    have hb25 := hb24.trans (hb5.mono hb24.size)
    exact hret _ _ (by simp only [defers_put, hd_a1]) (by simp [hz_a1]) (hB1.trans (hb25.mono hB1.size))
  · obtain ⟨hx, hy⟩ := hwa h0
    refine wpIn_seq (region_p 21 ?_)
    intro K hK
    refine ListK.move (i := 0) (v := .int .i64 wa) rfl (by simp [u12]) ?_
    refine ListK.bin (i := 1) (u := .int .i64 wa) (u' := .int .i64 0) (v := .bool false) rfl (by simp [hz_a1]) (by simp) (eql27F h0 _) ?_
    refine ListK.move (i := 2) (v := .bool false) rfl (by simp [hz_a1]) ?_
    refine ListK.load (i := 3) (p := ⟨p1, 0, none⟩) (v := .agg #[.int .i64 x, .int .i64 y]) rfl (by simp [u7]) (ld46 ⟨wr.cell 0, wr.cell 1⟩) ?_ (hw := wanted_g (e := 151) (b' := false) rfl (by simp [hz_a1]) rfl)
    refine ListK.bldW (i := 4) (ps := #[]) (v := .agg #[.int .i64 0, .int .i64 0]) rfl (by simp) (bd46z _) ?_ (hw := wanted_g (e := 151) (b' := false) rfl (by simp [hz_a1]) rfl)
    refine ListK.bin (i := 5) (u := .agg #[.int .i64 x, .int .i64 y]) (u' := .agg #[.int .i64 0, .int .i64 0]) (v := .bool true) rfl (by simp [hz_a1]) (by simp [hz_a1]) (eql46S hx hy _) ?_ (hw := wanted_g (e := 151) (b' := false) rfl (by simp [hz_a1]) rfl)
    refine ListK.pick (i := 6) (b := false) (v := .bool true) rfl (by simp [hz_a1]) (by simp [hz_a1]) ?_
    refine ListK.move (i := 7) (v := .bool true) rfl (by simp [hz_a1]) ?_
    refine ListK.move (i := 8) (v := .slice A9 xC.length c9) rfl (by simp [u9]) ?_ (hw := wanted_g (e := 156) (b' := true) rfl (by simp [hz_a1]) rfl)
    refine ListK.move (i := 9) (v := .slice A15 xC.length c15) rfl (by simp [u15]) ?_ (hw := wanted_g (e := 156) (b' := true) rfl (by simp [hz_a1]) rfl)
    refine ListK.call (i := 10) (vs := #[.slice A9 xC.length c9, .slice A15 xC.length c15]) rfl (enters_of Try.func25 (by kernel_rfl) rfl) (by simp [hz_a1]) ((hc1).mono ?_) (hw := wanted_g (e := 156) (b' := true) rfl (by simp [hz_a1]) rfl)
    rintro _ W3 ⟨rfl, hb3⟩
    refine ⟨_, rfl, ?_⟩
    refine ListK.pick (i := 11) (b := true) (v := .bool true) rfl (by simp [hz_a1]) (by simp [hz_a1]) ?_
    refine ListK.move (i := 12) (v := .bool true) rfl (by simp [hz_a1]) ?_
    refine ListK.move (i := 13) (v := .slice A10 xS.length c10) rfl (by simp [u10]) ?_ (hw := wanted_g (e := 161) (b' := true) rfl (by simp [hz_a1]) rfl)
    refine ListK.move (i := 14) (v := .slice A16 xS.length c16) rfl (by simp [u16]) ?_ (hw := wanted_g (e := 161) (b' := true) rfl (by simp [hz_a1]) rfl)
    refine ListK.call (i := 15) (vs := #[.slice A10 xS.length c10, .slice A16 xS.length c16]) rfl (enters_of Try.func25 (by kernel_rfl) rfl) (by simp [hz_a1]) (((hc2 W3 hb3)).mono ?_) (hw := wanted_g (e := 161) (b' := true) rfl (by simp [hz_a1]) rfl)
    rintro _ W4 ⟨rfl, hb4⟩
    refine ⟨_, rfl, ?_⟩
    refine ListK.pick (i := 16) (b := true) (v := .bool true) rfl (by simp [hz_a1]) (by simp [hz_a1]) ?_
    refine ListK.move (i := 17) (v := .bool true) rfl (by simp [hz_a1]) ?_
    refine ListK.call (i := 18) (vs := #[]) rfl (enters_of Try.func16 (by kernel_rfl) rfl) (by simp) (((wakes_any W4)).mono ?_) (hw := wanted_g (e := 166) (b' := true) rfl (by simp [hz_a1]) rfl)
    rintro _ W5 ⟨rfl, hb5⟩
    refine ⟨_, rfl, ?_⟩
    refine ListK.pick (i := 19) (b := true) (v := .bool true) rfl (by simp [hz_a1]) (by simp [hz_a1]) ?_
    refine ListK.assign (i := 20) (v := .bool true) rfl (by simp [hz_a1]) ?_
    refine ListK.done (hK _ _ (wpIn_ret ?_))
    have hb24 := hb3.trans (hb4.mono hb3.size)
    have hb25 := hb24.trans (hb5.mono hb24.size)
    exact hret _ _ (by simp only [defers_put, hd_a1]) (by simp [hz_a1]) (hB1.trans (hb25.mono hB1.size))
end
end Go.Proofs.Ytfcnombmphophaa
namespace Go.Proofs.Ytfcnombmphophaa
open Go.RowKit Go.Shelf
section
variable {p1 c9 c10 : Nat} {n x y : Int} {A9 A10 : Option Addr} {a1 : Act} {W W2 : World} {xC xS : List Int}
set_option maxHeartbeats 4000000 in
theorem hs_err (hn : n ≠ 0) (hx : x = 0) (hy : y = 0) (hC : xC.length = 0) (hS : xS.length = 0) (hz_a1 : a1.tmps.size = 169) (hd_a1 : a1.defers = []) (u7 : a1.eval (.tmp 7) = .pointer (some ⟨p1, 0, none⟩)) (u9 : a1.eval (.tmp 9) = .slice A9 xC.length c9) (u10 : a1.eval (.tmp 10) = .slice A10 xS.length c10) (u13 : a1.eval (.tmp 13) = .int .i64 n)
    (wr : Whole W2 p1 46 #[.int .i64 x, .int .i64 y]) (hB1 : Below W.heap.size W W2) : hs_f.wpIn Fence.wide 5 Try.prog (bodyPost Try.prog Try.f6 (TP W true)) a1 W2 := by
  have hret : ∀ (a' : Act) (W' : World), a'.defers = [] → a'.eval (.tmp 6) = .bool true → Below W.heap.size W W' → bodyPost Try.prog Try.f6 (TP W true) .ret a' W' := fun a' W' hd h4 hb =>
    bodyPost_ret (v := .bool true) (res1 Try.results6 h4) hd ⟨rfl, hb⟩
  unfold hs_f
  refine wpIn_seq (wpIn_seq (region_p 2 ?_))
  intro K hK
  refine ListK.move (i := 0) (v := .int .i64 n) rfl (by simp [u13]) ?_
  refine ListK.bin (i := 1) (u := .int .i64 n) (u' := .int .i64 0) (v := .bool true) rfl (by simp [hz_a1]) (by simp) (nqT hn _) ?_
  refine ListK.done (hK _ _ ?_)
  clear hK K
  refine wpIn_cond (t := true) (by simp [hz_a1]) ?_
  generalize hA : Act.put _ _ _ = a2
  have hz_a2 : a2.tmps.size = 169 := by rw [← hA]; simp only [size_put, hz_a1]
  have v7 : a2.eval (.tmp 7) = .pointer (some ⟨p1, 0, none⟩) := by rw [← hA]; exact (by simp [u7])
  have v9 : a2.eval (.tmp 9) = .slice A9 xC.length c9 := by rw [← hA]; exact (by simp [u9])
  have v10 : a2.eval (.tmp 10) = .slice A10 xS.length c10 := by rw [← hA]; exact (by simp [u10])
  have hd_a2 : a2.defers = [] := by rw [← hA]; simp only [defers_put, hd_a1]
  clear hA
  refine wpIn_seq (region_p 15 ?_)
  intro K hK
  refine ListK.load (i := 0) (p := ⟨p1, 0, none⟩) (v := .agg #[.int .i64 x, .int .i64 y]) rfl (by simp [v7]) (ld46 ⟨wr.cell 0, wr.cell 1⟩) ?_
  refine ListK.bld (i := 1) (ps := #[]) (v := .agg #[.int .i64 0, .int .i64 0]) rfl (by simp) (bd46z _) ?_
  refine ListK.bin (i := 2) (u := .agg #[.int .i64 x, .int .i64 y]) (u' := .agg #[.int .i64 0, .int .i64 0]) (v := .bool true) rfl (by simp [hz_a2]) (by simp [hz_a2]) (eql46S hx hy _) ?_
  refine ListK.move (i := 3) (v := .bool true) rfl (by simp [hz_a2]) ?_
  refine ListK.move (i := 4) (v := .slice A9 xC.length c9) rfl (by simp [v9]) ?_ (hw := wanted_g (e := 90) (b' := true) rfl (by simp [hz_a2]) rfl)
  refine ListK.lenW (i := 5) (u := .slice A9 xC.length c9) (v := .int .i64 xC.length) rfl (by simp [hz_a2]) (ln25 _ _ _ _ _) rfl ?_ (hw := wanted_g (e := 90) (b' := true) rfl (by simp [hz_a2]) rfl)
  refine ListK.move (i := 6) (v := .slice A10 xS.length c10) rfl (by simp [v10]) ?_ (hw := wanted_g (e := 90) (b' := true) rfl (by simp [hz_a2]) rfl)
  refine ListK.lenW (i := 7) (u := .slice A10 xS.length c10) (v := .int .i64 xS.length) rfl (by simp [hz_a2]) (ln25 _ _ _ _ _) rfl ?_ (hw := wanted_g (e := 90) (b' := true) rfl (by simp [hz_a2]) rfl)
  refine ListK.bin (i := 8) (u := .int .i64 xC.length) (u' := .int .i64 xS.length) (v := .int .i64 ((xC.length : Int) + (xS.length : Int))) rfl (by simp [hz_a2]) (by simp [hz_a2]) (add3 (by omega) (by omega) _) ?_ (hw := wanted_g (e := 90) (b' := true) rfl (by simp [hz_a2]) rfl)
  refine ListK.bin (i := 9) (u := .int .i64 ((xC.length : Int) + (xS.length : Int))) (u' := .int .i64 0) (v := .bool true) rfl (by simp [hz_a2]) (by simp) (eql3T (by omega) _) ?_ (hw := wanted_g (e := 90) (b' := true) rfl (by simp [hz_a2]) rfl)
  refine ListK.pick (i := 10) (b := true) (v := .bool true) rfl (by simp [hz_a2]) (by simp [hz_a2]) ?_
  refine ListK.move (i := 11) (v := .bool true) rfl (by simp [hz_a2]) ?_
  refine ListK.call (i := 12) (vs := #[]) rfl (enters_of Try.func16 (by kernel_rfl) rfl) (by simp) (((wakes_any W2)).mono ?_) (hw := wanted_g (e := 98) (b' := true) rfl (by simp [hz_a2]) rfl)
  rintro _ W3 ⟨rfl, hb3⟩
  refine ⟨_, rfl, ?_⟩
  refine ListK.pick (i := 13) (b := true) (v := .bool true) rfl (by simp [hz_a2]) (by simp [hz_a2]) ?_
  refine ListK.assign (i := 14) (v := .bool true) rfl (by simp [hz_a2]) ?_
  refine ListK.done (hK _ _ (wpIn_ret ?_))
  exact hret _ _ (by simp only [defers_put, hd_a2]) (by simp [hz_a2]) (hB1.trans (hb3.mono hB1.size))
end
end Go.Proofs.Ytfcnombmphophaa
namespace Go.Proofs.Ytfcnombmphophaa
open Go.RowKit Go.Shelf
noncomputable def opsHz5 : Array Oper := (Try.f6.body.bind (regionOf 5)).getD #[]
def wordsHz5 (b3 : Nat) (A : Option Addr) (nl c : Nat) (o t fe : Int) : Words := [fun v _ => v = .agg #[.int .i64 o, .int .i64 t, .slice A nl c], fun v _ => v = .int .i64 fe, fun v _ => v = .agg #[.int .i64 o, .int .i64 t, .slice A nl c], fun v _ => v = .int .i64 fe, fun v _ => v = .int .i64 fe, fun v _ => v = .int .i64 fe]
theorem okHz5_0 {b3 : Nat} {A : Option Addr} {nl c : Nat} {o t fe : Int} {a : Act} {w : World} (t3 : a.eval (.tmp 3) = .pointer (some ⟨b3, 0, none⟩)) (q0 : w.cell? ⟨b3, 0, none⟩ = some (.int .i64 o)) (q1 : w.cell? ⟨b3, 1, none⟩ = some (.int .i64 t)) (q2 : w.cell? ⟨b3, 2, none⟩ = some (.slice A nl c)) (hm' : CV w 21 #[.agg #[.int .i64 o, .int .i64 t, .slice A nl c]] (.int .i64 fe)) : OpOk Try.prog opsHz5 (wordsHz5 b3 A nl c o t fe) 169 a w 0 := by
  refine OpOk.gen rfl (fun a1 w1 H => ?_)
  have e3 : a1.eval (.tmp 3) = .pointer (some ⟨b3, 0, none⟩) := (H.out 3 (by kernel_rfl)).trans t3
  refine gd_none ?_
  exact OpW.load e3 (ld24 ⟨H.cell q0, H.cell q1, H.cell q2⟩) rfl
theorem okHz5_1 {b3 : Nat} {A : Option Addr} {nl c : Nat} {o t fe : Int} {a : Act} {w : World} (t3 : a.eval (.tmp 3) = .pointer (some ⟨b3, 0, none⟩)) (q0 : w.cell? ⟨b3, 0, none⟩ = some (.int .i64 o)) (q1 : w.cell? ⟨b3, 1, none⟩ = some (.int .i64 t)) (q2 : w.cell? ⟨b3, 2, none⟩ = some (.slice A nl c)) (hm' : CV w 21 #[.agg #[.int .i64 o, .int .i64 t, .slice A nl c]] (.int .i64 fe)) : OpOk Try.prog opsHz5 (wordsHz5 b3 A nl c o t fe) 169 a w 1 := by
  refine OpOk.gen rfl (fun a1 w1 H => ?_)
  have d0 : a1.eval (.tmp 42) = .agg #[.int .i64 o, .int .i64 t, .slice A nl c] := H.dep 0 42 rfl (by kernel_rfl)
  refine gd_none ?_
  exact OpW.call (vs := #[.agg #[.int .i64 o, .int .i64 t, .slice A nl c]]) (enters_of Try.func21 (by kernel_rfl) rfl) (by simp [d0]) (hm' w1 H.low)
theorem okHz5_2 {b3 : Nat} {A : Option Addr} {nl c : Nat} {o t fe : Int} {a : Act} {w : World} (t3 : a.eval (.tmp 3) = .pointer (some ⟨b3, 0, none⟩)) (q0 : w.cell? ⟨b3, 0, none⟩ = some (.int .i64 o)) (q1 : w.cell? ⟨b3, 1, none⟩ = some (.int .i64 t)) (q2 : w.cell? ⟨b3, 2, none⟩ = some (.slice A nl c)) (hm' : CV w 21 #[.agg #[.int .i64 o, .int .i64 t, .slice A nl c]] (.int .i64 fe)) : OpOk Try.prog opsHz5 (wordsHz5 b3 A nl c o t fe) 169 a w 2 := by
  refine OpOk.gen rfl (fun a1 w1 H => ?_)
  have e3 : a1.eval (.tmp 3) = .pointer (some ⟨b3, 0, none⟩) := (H.out 3 (by kernel_rfl)).trans t3
  refine gd_none ?_
  exact OpW.load e3 (ld24 ⟨H.cell q0, H.cell q1, H.cell q2⟩) rfl
theorem okHz5_3 {b3 : Nat} {A : Option Addr} {nl c : Nat} {o t fe : Int} {a : Act} {w : World} (t3 : a.eval (.tmp 3) = .pointer (some ⟨b3, 0, none⟩)) (q0 : w.cell? ⟨b3, 0, none⟩ = some (.int .i64 o)) (q1 : w.cell? ⟨b3, 1, none⟩ = some (.int .i64 t)) (q2 : w.cell? ⟨b3, 2, none⟩ = some (.slice A nl c)) (hm' : CV w 21 #[.agg #[.int .i64 o, .int .i64 t, .slice A nl c]] (.int .i64 fe)) : OpOk Try.prog opsHz5 (wordsHz5 b3 A nl c o t fe) 169 a w 3 := by
  refine OpOk.gen rfl (fun a1 w1 H => ?_)
  have d2 : a1.eval (.tmp 44) = .agg #[.int .i64 o, .int .i64 t, .slice A nl c] := H.dep 2 44 rfl (by kernel_rfl)
  refine gd_none ?_
  exact OpW.call (vs := #[.agg #[.int .i64 o, .int .i64 t, .slice A nl c]]) (enters_of Try.func21 (by kernel_rfl) rfl) (by simp [d2]) (hm' w1 H.low)
theorem okHz5_4 {b3 : Nat} {A : Option Addr} {nl c : Nat} {o t fe : Int} {a : Act} {w : World} (t3 : a.eval (.tmp 3) = .pointer (some ⟨b3, 0, none⟩)) (q0 : w.cell? ⟨b3, 0, none⟩ = some (.int .i64 o)) (q1 : w.cell? ⟨b3, 1, none⟩ = some (.int .i64 t)) (q2 : w.cell? ⟨b3, 2, none⟩ = some (.slice A nl c)) (hm' : CV w 21 #[.agg #[.int .i64 o, .int .i64 t, .slice A nl c]] (.int .i64 fe)) : OpOk Try.prog opsHz5 (wordsHz5 b3 A nl c o t fe) 169 a w 4 := by
  refine OpOk.gen rfl (fun a1 w1 H => ?_)
  have d1 : a1.eval (.tmp 43) = .int .i64 fe := H.dep 1 43 rfl (by kernel_rfl)
  refine gd_none ?_
  exact OpW.assign d1 rfl
theorem okHz5_5 {b3 : Nat} {A : Option Addr} {nl c : Nat} {o t fe : Int} {a : Act} {w : World} (t3 : a.eval (.tmp 3) = .pointer (some ⟨b3, 0, none⟩)) (q0 : w.cell? ⟨b3, 0, none⟩ = some (.int .i64 o)) (q1 : w.cell? ⟨b3, 1, none⟩ = some (.int .i64 t)) (q2 : w.cell? ⟨b3, 2, none⟩ = some (.slice A nl c)) (hm' : CV w 21 #[.agg #[.int .i64 o, .int .i64 t, .slice A nl c]] (.int .i64 fe)) : OpOk Try.prog opsHz5 (wordsHz5 b3 A nl c o t fe) 169 a w 5 := by
  refine OpOk.gen rfl (fun a1 w1 H => ?_)
  have d3 : a1.eval (.tmp 45) = .int .i64 fe := H.dep 3 45 rfl (by kernel_rfl)
  refine gd_none ?_
  exact OpW.assign d3 rfl
theorem regionHz5 {F : Fence} {n : Nat} (hF : WideF F Try.prog) {Q : Exit → Act → World → Prop} {b3 : Nat} {A : Option Addr} {nl c : Nat} {o t fe : Int} {a : Act} {w : World} (hsz : a.tmps.size = 169)
    (t3 : a.eval (.tmp 3) = .pointer (some ⟨b3, 0, none⟩)) (q0 : w.cell? ⟨b3, 0, none⟩ = some (.int .i64 o)) (q1 : w.cell? ⟨b3, 1, none⟩ = some (.int .i64 t)) (q2 : w.cell? ⟨b3, 2, none⟩ = some (.slice A nl c)) (hm' : CV w 21 #[.agg #[.int .i64 o, .int .i64 t, .slice A nl c]] (.int .i64 fe))
    (hK : ∀ (a' : Act) (w' : World), a'.tmps.size = 169 → a'.defers = a.defers → Below w.heap.size w w' → (∀ e, ndstB opsHz5 e = true → a'.eval (.tmp e) = a.eval (.tmp e)) → (∀ (j d : Nat), (opsHz5[j]?).bind (·.dst) = some d → (wordsHz5 b3 A nl c o t fe).at_ j (a'.eval (.tmp d)) w') → Q .normal a' w') :
    (Code.region 5 opsHz5 true).wpIn F n Try.prog Q a w := by
  refine region_S (wordsHz5 b3 A nl c o t fe) 169 hF (by kernel_rfl) Try.mixed (by kernel_rfl) (by kernel_rfl) ?_ hsz 6 (by kernel_rfl) ?_ hK
  · exact ⟨(fun _ _ _ h _ => h), (fun _ _ _ h _ => h), (fun _ _ _ h _ => h), (fun _ _ _ h _ => h), (fun _ _ _ h _ => h), (fun _ _ _ h _ => h), trivial⟩
  · exact ⟨⟨⟨⟨⟨⟨trivial, okHz5_0 t3 q0 q1 q2 hm'.drew⟩, okHz5_1 t3 q0 q1 q2 hm'.drew⟩, okHz5_2 t3 q0 q1 q2 hm'.drew⟩, okHz5_3 t3 q0 q1 q2 hm'.drew⟩, okHz5_4 t3 q0 q1 q2 hm'.drew⟩, okHz5_5 t3 q0 q1 q2 hm'.drew⟩
end Go.Proofs.Ytfcnombmphophaa
namespace Go.Proofs.Ytfcnombmphophaa
open Go.RowKit Go.Shelf
section
variable {b3 p1 c c9 c10 : Nat} {wa ow on o t e f n : Int} {A A9 A10 : Option Addr} {v9 v10 v14 : Value} {a1 : Act} {W W0 W5 : World} {l : List Sale}
set_option maxHeartbeats 4000000 in
theorem hs_good (hv : Valid o t l) (hF : fitsB t l = true) (h0 : 0 ≤ on) (h1 : on ≤ 100) (hlen : (allL t l).length ≤ 1000000) (hwa : wa = holdsE o t l ow on)
    (hz_a1 : a1.tmps.size = 169) (hd_a1 : a1.defers = []) (u1 : a1.eval (.tmp 1) = .int .i64 ow) (u2 : a1.eval (.tmp 2) = .int .i64 on) (u3 : a1.eval (.tmp 3) = .pointer (some ⟨b3, 0, none⟩)) (u7 : a1.eval (.tmp 7) = .pointer (some ⟨p1, 0, none⟩)) (u9 : a1.eval (.tmp 9) = .slice A9 (reachC o t l on).length c9) (u10 : a1.eval (.tmp 10) = .slice A10 (reachS o t l on).length c10) (u12 : a1.eval (.tmp 12) = .int .i64 wa) (u13 : a1.eval (.tmp 13) = .int .i64 0) (u14 : a1.eval (.tmp 14) = v14)
    (wb : Whole W5 b3 24 #[.int .i64 o, .int .i64 t, .slice A l.length c]) (hs : SalesAt W5 W5.heap.size A l) (hL : LL W0 v14 (allL t l) W5) (wr : Whole W5 p1 46 #[.int .i64 (holdsV o t l ow on).1, .int .i64 (holdsV o t l ow on).2])
    (hB1 : Below W.heap.size W W5) (h9 : IntsAt W5 W5.heap.size A9 (reachC o t l on)) (h10 : IntsAt W5 W5.heap.size A10 (reachS o t l on)) : hs_f.wpIn Fence.wide 5 Try.prog (bodyPost Try.prog Try.f6 (TP W true)) a1 W5 := by
  have ho1 := hv.o1
  have ho6 := hv.o6
  obtain ⟨O, hO⟩ : ∃ O : Nat, o = O := ⟨o.toNat, by omega⟩
  have hE : reachE o t l on = 0 := by
    unfold reachE
    rw [inR_iff.2 ⟨h0, h1⟩, triedE_valid hv, if_pos hF]
  have hC : reachC o t l on = canTo t l on O := by
    unfold reachC
    rw [if_pos hE]
    congr 1
    omega
  have hS : reachS o t l on = sureTo t l on O := by
    unfold reachS
    rw [if_pos hE]
    congr 1
    omega
  rw [hC] at u9 h9
  rw [hS] at u10 h10
  have hlC := canTo_length t l on O
  have hlS := sureTo_length t l on O
  have hxy : ∀ k : Nat, (k : Int) < o → (k : Int) = ow → (holdsV o t l ow on).1 = (holdsR t l k on).1 ∧ (holdsV o t l ow on).2 = (holdsR t l k on).2 := fun k hk e => by
    subst e
    rw [holdsV_valid hv (by omega) hk h0 h1, if_pos hF]
    simp
  have hw0 : wa ≠ 0 → (holdsV o t l ow on).1 = 0 ∧ (holdsV o t l ow on).2 = 0 := fun h => by
    unfold holdsV
    rw [if_neg (by rw [← hwa]; exact h)]
    exact ⟨rfl, rfl⟩
  generalize (holdsV o t l ow on).1 = x at *
  generalize (holdsV o t l ow on).2 = y at *
  unfold hs_f
  refine wpIn_seq (wpIn_seq (region_p 2 ?_))
  intro K hK
  refine ListK.move (i := 0) (v := .int .i64 0) rfl (by simp [u13]) ?_
  refine ListK.bin (i := 1) (u := .int .i64 0) (u' := .int .i64 0) (v := .bool false) rfl (by simp [hz_a1]) (by simp) (nqF rfl _) ?_
  refine ListK.done (hK _ _ ?_)
  clear hK K
  refine wpIn_cond (t := false) (by simp [hz_a1]) (wpIn_skip ?_)
  show hs_g.wpIn _ _ _ _ _ _
  unfold hs_g
  refine wpIn_seq (region_p 2 ?_)
  intro K hK
  refine ListK.assign (i := 0) (v := .slice none 0 0) rfl (by simp) ?_
  refine ListK.assign (i := 1) (v := .slice none 0 0) rfl (by simp) ?_
  refine ListK.done (hK _ _ ?_)
  clear hK K
  generalize hA : Act.put _ _ _ = a2
  have hz_a2 : a2.tmps.size = 169 := by rw [← hA]; simp only [size_put, hz_a1]
  have q1 : a2.eval (.tmp 1) = .int .i64 ow := by rw [← hA]; exact (by simp [u1])
  have q2 : a2.eval (.tmp 2) = .int .i64 on := by rw [← hA]; exact (by simp [u2])
  have q3 : a2.eval (.tmp 3) = .pointer (some ⟨b3, 0, none⟩) := by rw [← hA]; exact (by simp [u3])
  have q7 : a2.eval (.tmp 7) = .pointer (some ⟨p1, 0, none⟩) := by rw [← hA]; exact (by simp [u7])
  have q9 : a2.eval (.tmp 9) = .slice A9 (canTo t l on O).length c9 := by rw [← hA]; exact (by simp [u9])
  have q10 : a2.eval (.tmp 10) = .slice A10 (sureTo t l on O).length c10 := by rw [← hA]; exact (by simp [u10])
  have q12 : a2.eval (.tmp 12) = .int .i64 wa := by rw [← hA]; exact (by simp [u12])
  have q14 : a2.eval (.tmp 14) = v14 := by rw [← hA]; exact (by simp [u14])
  have q15 : a2.eval (.tmp 15) = .slice none 0 0 := by rw [← hA]; exact (by simp [hz_a1])
  have q16 : a2.eval (.tmp 16) = .slice none 0 0 := by rw [← hA]; exact (by simp [hz_a1])
  have hd_a2 : a2.defers = [] := by rw [← hA]; simp only [defers_put, hd_a1]
  clear hA
  refine wpIn_seq (hs_loop (O := O) (v9 := .slice A9 (canTo t l on O).length c9) (v10 := .slice A10 (sureTo t l on O).length c10) hv hF h0 h1 hO hlen hz_a2 hd_a2 q1 q2 q3 q7 q9 q10 q12 q14 q15 q16 wb hs hL wr hxy fun a' W' v15' v16' hf hm => ?_)
  obtain ⟨hz3, hd3, r1, r2, r3, r7, r9, r10, r12, r14, r15, r16, r17⟩ := hf
  have hb := hm.low
  obtain ⟨⟨A15, c15, rfl, _, i15⟩, ⟨A16, c16, rfl, _, i16⟩⟩ := hm.ri
  exact hs_end hw0 hz3 hd3 r7 r9 r10 r12 r15 r16 (wr.below hb wr.lt) (hB1.trans (hb.mono hB1.size)) ((h9.below hb (Nat.le_refl _)).more hb.size) ((h10.below hb (Nat.le_refl _)).more hb.size) i15 i16 (by omega) (by omega) (by rw [sameL_iff]; simp) (by rw [sameL_iff]; simp)
set_option maxHeartbeats 4000000 in
theorem hs_same (hz_a1 : a1.tmps.size = 169) (hd_a1 : a1.defers = []) (u1 : a1.eval (.tmp 1) = .int .i64 ow) (u2 : a1.eval (.tmp 2) = .int .i64 on) (u3 : a1.eval (.tmp 3) = .pointer (some ⟨b3, 0, none⟩)) (u7 : a1.eval (.tmp 7) = .pointer (some ⟨p1, 0, none⟩)) (u8 : a1.eval (.tmp 8) = .int .i64 e) (u9 : a1.eval (.tmp 9) = v9) (u10 : a1.eval (.tmp 10) = v10) (u11 : a1.eval (.tmp 11) = .int .i64 f) (u12 : a1.eval (.tmp 12) = .int .i64 e) (u13 : a1.eval (.tmp 13) = .int .i64 f) (u14 : a1.eval (.tmp 14) = v14)
    (hQ : ∀ a2 : Act, a2.tmps.size = 169 → a2.defers = [] → a2.eval (.tmp 1) = .int .i64 ow → a2.eval (.tmp 2) = .int .i64 on → a2.eval (.tmp 3) = .pointer (some ⟨b3, 0, none⟩) → a2.eval (.tmp 7) = .pointer (some ⟨p1, 0, none⟩) → a2.eval (.tmp 9) = v9 → a2.eval (.tmp 10) = v10 → a2.eval (.tmp 12) = .int .i64 e → a2.eval (.tmp 13) = .int .i64 f → a2.eval (.tmp 14) = v14 → hs_f.wpIn Fence.wide 5 Try.prog (bodyPost Try.prog Try.f6 (TP W true)) a2 W5) :
    hs_e.wpIn Fence.wide 5 Try.prog (bodyPost Try.prog Try.f6 (TP W true)) a1 W5 := by
  unfold hs_e
  refine wpIn_seq (wpIn_seq (region_p 8 ?_))
  intro K hK
  refine ListK.move (i := 0) (v := .int .i64 e) rfl (by simp [u8]) ?_
  refine ListK.move (i := 1) (v := .int .i64 e) rfl (by simp [u12]) ?_
  refine ListK.bin (i := 2) (u := .int .i64 e) (u' := .int .i64 e) (v := .bool false) rfl (by simp [hz_a1]) (by simp [hz_a1]) (nqF rfl _) ?_
  refine ListK.move (i := 3) (v := .bool false) rfl (by simp [hz_a1]) ?_
  refine ListK.move (i := 4) (v := .int .i64 f) rfl (by simp [u11]) ?_ (hw := wanted_g (e := 80) (b' := false) rfl (by simp [hz_a1]) rfl)
  refine ListK.move (i := 5) (v := .int .i64 f) rfl (by simp [u13]) ?_ (hw := wanted_g (e := 80) (b' := false) rfl (by simp [hz_a1]) rfl)
  refine ListK.bin (i := 6) (u := .int .i64 f) (u' := .int .i64 f) (v := .bool false) rfl (by simp [hz_a1]) (by simp [hz_a1]) (nqF rfl _) ?_ (hw := wanted_g (e := 80) (b' := false) rfl (by simp [hz_a1]) rfl)
  refine ListK.pick (i := 7) (b := false) (v := .bool false) rfl (by simp [hz_a1]) (by simp [hz_a1]) ?_
  refine ListK.done (hK _ _ ?_)
  clear hK K
  refine wpIn_cond (t := false) (by simp [hz_a1]) (wpIn_skip ?_)
  generalize hA : Act.put _ _ _ = a2
  have hz_a2 : a2.tmps.size = 169 := by rw [← hA]; simp only [size_put, hz_a1]
  have q1 : a2.eval (.tmp 1) = .int .i64 ow := by rw [← hA]; exact (by simp [u1])
  have q2 : a2.eval (.tmp 2) = .int .i64 on := by rw [← hA]; exact (by simp [u2])
  have q3 : a2.eval (.tmp 3) = .pointer (some ⟨b3, 0, none⟩) := by rw [← hA]; exact (by simp [u3])
  have q7 : a2.eval (.tmp 7) = .pointer (some ⟨p1, 0, none⟩) := by rw [← hA]; exact (by simp [u7])
  have q9 : a2.eval (.tmp 9) = v9 := by rw [← hA]; exact (by simp [u9])
  have q10 : a2.eval (.tmp 10) = v10 := by rw [← hA]; exact (by simp [u10])
  have q12 : a2.eval (.tmp 12) = .int .i64 e := by rw [← hA]; exact (by simp [u12])
  have q13 : a2.eval (.tmp 13) = .int .i64 f := by rw [← hA]; exact (by simp [u13])
  have q14 : a2.eval (.tmp 14) = v14 := by rw [← hA]; exact (by simp [u14])
  have hd_a2 : a2.defers = [] := by rw [← hA]; simp only [defers_put, hd_a1]
  clear hA
  exact hQ a2 hz_a2 hd_a2 q1 q2 q3 q7 q9 q10 q12 q13 q14
set_option maxHeartbeats 4000000 in
theorem hs_fin (hwa : wa = holdsE o t l ow on) (hn : n = reachE o t l on) (hg : n = 0 → Valid o t l ∧ fitsB t l = true ∧ 0 ≤ on ∧ on ≤ 100 ∧ (allL t l).length ≤ 1000000 ∧ ∃ W0, LL W0 v14 (allL t l) W5) (hbad : n ≠ 0 → wa ≠ 0)
    (hz_a1 : a1.tmps.size = 169) (hd_a1 : a1.defers = []) (u1 : a1.eval (.tmp 1) = .int .i64 ow) (u2 : a1.eval (.tmp 2) = .int .i64 on) (u3 : a1.eval (.tmp 3) = .pointer (some ⟨b3, 0, none⟩)) (u7 : a1.eval (.tmp 7) = .pointer (some ⟨p1, 0, none⟩)) (u8 : a1.eval (.tmp 8) = .int .i64 (holdsE o t l ow on)) (u9 : a1.eval (.tmp 9) = .slice A9 (reachC o t l on).length c9) (u10 : a1.eval (.tmp 10) = .slice A10 (reachS o t l on).length c10) (u11 : a1.eval (.tmp 11) = .int .i64 (reachE o t l on)) (u12 : a1.eval (.tmp 12) = .int .i64 wa) (u13 : a1.eval (.tmp 13) = .int .i64 n) (u14 : a1.eval (.tmp 14) = v14)
    (wb : Whole W5 b3 24 #[.int .i64 o, .int .i64 t, .slice A l.length c]) (hs : SalesAt W5 W5.heap.size A l) (wr : Whole W5 p1 46 #[.int .i64 (holdsV o t l ow on).1, .int .i64 (holdsV o t l ow on).2])
    (hB1 : Below W.heap.size W W5) (h9 : IntsAt W5 W5.heap.size A9 (reachC o t l on)) (h10 : IntsAt W5 W5.heap.size A10 (reachS o t l on)) : hs_e.wpIn Fence.wide 5 Try.prog (bodyPost Try.prog Try.f6 (TP W true)) a1 W5 := by
  rw [← hwa] at u8
  rw [← hn] at u11
  refine hs_same hz_a1 hd_a1 u1 u2 u3 u7 u8 u9 u10 u11 u12 u13 u14 fun a2 hz hd q1 q2 q3 q7 q9 q10 q12 q13 q14 => ?_
  by_cases h : n = 0
  · obtain ⟨hv, hF, h0, h1, hlen, W0, hL⟩ := hg h
    rw [h] at q13
    exact hs_good hv hF h0 h1 hlen hwa hz hd q1 q2 q3 q7 q9 q10 q12 q13 q14 wb hs hL wr hB1 h9 h10
  · have hV : holdsV o t l ow on = (0, 0) := by
      unfold holdsV
      rw [if_neg (by rw [← hwa]; exact hbad h)]
    have hC : (reachC o t l on).length = 0 := by
      unfold reachC
      rw [if_neg (by rw [← hn]; exact h)]
      rfl
    have hS : (reachS o t l on).length = 0 := by
      unfold reachS
      rw [if_neg (by rw [← hn]; exact h)]
      rfl
    exact hs_err h (by rw [hV]) (by rw [hV]) hC hS hz hd q7 q9 q10 q13 wr hB1
end
end Go.Proofs.Ytfcnombmphophaa
namespace Go.Proofs.Ytfcnombmphophaa
open Go.RowKit Go.Shelf
theorem holdsE_tried {o t : Int} {l : List Sale} (hv : Valid o t l) (ow on : Int) : holdsE o t l ow on = truthsE t l (inR ow 0 (o - 1) && inR on 0 100) := by
  have h : holdsOk o ow on = (inR ow 0 (o - 1) && inR on 0 100) := by
    unfold holdsOk
    have e : IntKind.i64.wrap (o - 1) = o - 1 := by
      have a := hv.o1
      have b := hv.o6
      rw [IntKind.wrap_i64]
      omega
    rw [e]
  unfold holdsE
  rw [h]
  exact tried_truths hv _
section
variable {b3 p1 c c9 c10 : Nat} {wa ow on o t : Int} {A A9 A10 : Option Addr} {v14 : Value} {a5 : Act} {W W8 : World} {l : List Sale}
set_option maxHeartbeats 8000000 in
theorem hs_rest (hv : Valid o t l) (hle : (allL t l).length ≤ 1000000) (hw : wa = 0 ∨ wa = 2) (hw2 : inR on 0 100 = false → wa = 2) (hHE : holdsE o t l ow on = if wa = 0 then truthsE t l true else 2)
    (hz_a5 : a5.tmps.size = 169) (hd_a5 : a5.defers = []) (u1 : a5.eval (.tmp 1) = .int .i64 ow) (u2 : a5.eval (.tmp 2) = .int .i64 on) (u3 : a5.eval (.tmp 3) = .pointer (some ⟨b3, 0, none⟩)) (u7 : a5.eval (.tmp 7) = .pointer (some ⟨p1, 0, none⟩)) (u8 : a5.eval (.tmp 8) = .int .i64 (holdsE o t l ow on)) (u9 : a5.eval (.tmp 9) = .slice A9 (reachC o t l on).length c9) (u10 : a5.eval (.tmp 10) = .slice A10 (reachS o t l on).length c10) (u11 : a5.eval (.tmp 11) = .int .i64 (reachE o t l on)) (u12 : a5.eval (.tmp 12) = .int .i64 wa) (u13 : a5.eval (.tmp 13) = .int .i64 0)
    (wb : Whole W8 b3 24 #[.int .i64 o, .int .i64 t, .slice A l.length c]) (hs : SalesAt W8 W8.heap.size A l) (wr : Whole W8 p1 46 #[.int .i64 (holdsV o t l ow on).1, .int .i64 (holdsV o t l ow on).2])
    (hB1 : Below W.heap.size W W8) (h9 : IntsAt W8 W8.heap.size A9 (reachC o t l on)) (h10 : IntsAt W8 W8.heap.size A10 (reachS o t l on)) : hs_c.wpIn Fence.wide 5 Try.prog (bodyPost Try.prog Try.f6 (TP W true)) a5 W8 := by
  have hl8 := hv.len
  have hvt := hv.t0
  have hvt1 := hv.t1
  have hmm : ∀ s, s ∈ l → 0 ≤ s.many ∧ s.many ≤ 1000 := fun s hs => by
    have := saleOk_facts (hv.ok s hs)
    omega
  have hdd : ∀ s, s ∈ l → 0 ≤ s.lo ∧ s.hi ≤ 100 := fun s hs => by
    have := saleOk_facts (hv.ok s hs)
    omega
  have hRE : reachE o t l on = truthsE t l (inR on 0 100) := tried_truths hv _
  have hi2 := in_any on 0 100
  obtain ⟨rD, hrD⟩ : ∃ b, b = inR on 0 100 := ⟨_, rfl⟩
  rw [← hrD] at hi2 hRE hw2
  unfold hs_c
  cases rD with
  | false =>
    obtain rfl := hw2 rfl
    have hHC : holdsE o t l ow on = 2 := hHE
    have hRC2 : reachE o t l on = 2 := by rw [hRE]; simp [truthsE]
    refine wpIn_seq (wpIn_seq (region_p 7 ?_))
    intro K hK
    refine ListK.move (i := 0) (v := .int .i64 0) rfl (by simp [u13]) ?_
    refine ListK.bin (i := 1) (u := .int .i64 0) (u' := .int .i64 0) (v := .bool true) rfl (by simp [hz_a5]) (by simp) (eql27T rfl _) ?_
    refine ListK.move (i := 2) (v := .bool true) rfl (by simp [hz_a5]) ?_
    refine ListK.move (i := 3) (v := .int .i64 on) rfl (by simp [u2]) ?_ (hw := wanted_g (e := 62) (b' := true) rfl (by simp [hz_a5]) rfl)
    refine ListK.call (i := 4) (vs := #[.int .i64 on, .int .i64 0, .int .i64 100]) rfl (enters_of Try.func31 (by kernel_rfl) rfl) (by simp [hz_a5]) (((hi2 W8)).mono ?_) (hw := wanted_g (e := 62) (b' := true) rfl (by simp [hz_a5]) rfl)
    rintro _ _ ⟨rfl, rfl⟩
    refine ⟨_, rfl, ?_⟩
    refine ListK.un (i := 5) (u := .bool false) (v := .bool true) rfl (by simp [hz_a5]) (not4 _ _) ?_ (hw := wanted_g (e := 62) (b' := true) rfl (by simp [hz_a5]) rfl)
    refine ListK.pick (i := 6) (b := true) (v := .bool true) rfl (by simp [hz_a5]) (by simp [hz_a5]) ?_
    refine ListK.done (hK _ _ ?_)
    clear hK K
    refine wpIn_cond (t := true) (by simp [hz_a5]) ?_
    refine region_p 1 ?_
    intro K hK
    refine ListK.assign (i := 0) (v := .int .i64 2) rfl (by simp) ?_
    refine ListK.done (hK _ _ ?_)
    clear hK K
    generalize hA : Act.put _ _ _ = a7
    have hz_a7 : a7.tmps.size = 169 := by rw [← hA]; simp only [size_put, hz_a5]
    have s1 : a7.eval (.tmp 1) = .int .i64 ow := by rw [← hA]; exact (by simp [u1])
    have s2 : a7.eval (.tmp 2) = .int .i64 on := by rw [← hA]; exact (by simp [u2])
    have s3 : a7.eval (.tmp 3) = .pointer (some ⟨b3, 0, none⟩) := by rw [← hA]; exact (by simp [u3])
    have s7 : a7.eval (.tmp 7) = .pointer (some ⟨p1, 0, none⟩) := by rw [← hA]; exact (by simp [u7])
    have s8 : a7.eval (.tmp 8) = .int .i64 (holdsE o t l ow on) := by rw [← hA]; exact (by simp [u8])
    have s9 : a7.eval (.tmp 9) = .slice A9 (reachC o t l on).length c9 := by rw [← hA]; exact (by simp [u9])
    have s10 : a7.eval (.tmp 10) = .slice A10 (reachS o t l on).length c10 := by rw [← hA]; exact (by simp [u10])
    have s11 : a7.eval (.tmp 11) = .int .i64 (reachE o t l on) := by rw [← hA]; exact (by simp [u11])
    have s12 : a7.eval (.tmp 12) = .int .i64 2 := by rw [← hA]; exact (by simp [u12])
    have s13 : a7.eval (.tmp 13) = .int .i64 2 := by rw [← hA]; exact (by simp [hz_a5])
    have hd_a7 : a7.defers = [] := by rw [← hA]; simp only [defers_put, hd_a5]
    clear hA
    show hs_d.wpIn _ _ _ _ _ _
    unfold hs_d
    refine wpIn_seq (region_p 1 ?_)
    intro K hK
    refine ListK.assign (i := 0) (v := .slice none 0 0) rfl (by simp) ?_
    refine ListK.done (hK _ _ ?_)
    clear hK K
    refine wpIn_seq (wpIn_seq (region_p 2 ?_))
    intro K hK
    refine ListK.move (i := 0) (v := .int .i64 2) rfl (by simp [s13]) ?_
    refine ListK.bin (i := 1) (u := .int .i64 2) (u' := .int .i64 0) (v := .bool false) rfl (by simp [hz_a7]) (by simp) (eql27F (by decide) _) ?_
    refine ListK.done (hK _ _ ?_)
    clear hK K
    refine wpIn_cond (t := false) (by simp [hz_a7]) (wpIn_skip ?_)
    generalize hA : Act.put _ _ _ = a8
    have hz_a8 : a8.tmps.size = 169 := by rw [← hA]; simp only [size_put, hz_a7]
    have r1 : a8.eval (.tmp 1) = .int .i64 ow := by rw [← hA]; exact (by simp [s1])
    have r2 : a8.eval (.tmp 2) = .int .i64 on := by rw [← hA]; exact (by simp [s2])
    have r3 : a8.eval (.tmp 3) = .pointer (some ⟨b3, 0, none⟩) := by rw [← hA]; exact (by simp [s3])
    have r7 : a8.eval (.tmp 7) = .pointer (some ⟨p1, 0, none⟩) := by rw [← hA]; exact (by simp [s7])
    have r8 : a8.eval (.tmp 8) = .int .i64 (holdsE o t l ow on) := by rw [← hA]; exact (by simp [s8])
    have r9 : a8.eval (.tmp 9) = .slice A9 (reachC o t l on).length c9 := by rw [← hA]; exact (by simp [s9])
    have r10 : a8.eval (.tmp 10) = .slice A10 (reachS o t l on).length c10 := by rw [← hA]; exact (by simp [s10])
    have r11 : a8.eval (.tmp 11) = .int .i64 (reachE o t l on) := by rw [← hA]; exact (by simp [s11])
    have r12 : a8.eval (.tmp 12) = .int .i64 2 := by rw [← hA]; exact (by simp [s12])
    have r13 : a8.eval (.tmp 13) = .int .i64 2 := by rw [← hA]; exact (by simp [s13])
    have r14 : a8.eval (.tmp 14) = .slice none 0 0 := by rw [← hA]; exact (by simp [hz_a7])
    have hd_a8 : a8.defers = [] := by rw [← hA]; simp only [defers_put, hd_a7]
    clear hA
    exact hs_fin hHC.symm hRC2.symm (fun h => absurd h (by decide)) (fun _ => by decide) hz_a8 hd_a8 r1 r2 r3 r7 r8 r9 r10 r11 r12 r13 r14 wb hs wr hB1 h9 h10
  | true =>
    have hon := inR_iff.1 hrD.symm
    have hTE : truthsE t l true = 0 ↔ fitsB t l = true := by
      have h9 : truthsE t l true = if fitsB t l = true then 0 else 9 := (tried_truths hv true).symm.trans (triedE_valid hv)
      rw [h9]
      cases fitsB t l <;> simp
    clear hw2
    refine wpIn_seq (wpIn_seq (region_p 7 ?_))
    intro K hK
    refine ListK.move (i := 0) (v := .int .i64 0) rfl (by simp [u13]) ?_
    refine ListK.bin (i := 1) (u := .int .i64 0) (u' := .int .i64 0) (v := .bool true) rfl (by simp [hz_a5]) (by simp) (eql27T rfl _) ?_
    refine ListK.move (i := 2) (v := .bool true) rfl (by simp [hz_a5]) ?_
    refine ListK.move (i := 3) (v := .int .i64 on) rfl (by simp [u2]) ?_ (hw := wanted_g (e := 62) (b' := true) rfl (by simp [hz_a5]) rfl)
    refine ListK.call (i := 4) (vs := #[.int .i64 on, .int .i64 0, .int .i64 100]) rfl (enters_of Try.func31 (by kernel_rfl) rfl) (by simp [hz_a5]) (((hi2 W8)).mono ?_) (hw := wanted_g (e := 62) (b' := true) rfl (by simp [hz_a5]) rfl)
    rintro _ _ ⟨rfl, rfl⟩
    refine ⟨_, rfl, ?_⟩
    refine ListK.un (i := 5) (u := .bool true) (v := .bool false) rfl (by simp [hz_a5]) (not4 _ _) ?_ (hw := wanted_g (e := 62) (b' := true) rfl (by simp [hz_a5]) rfl)
    refine ListK.pick (i := 6) (b := true) (v := .bool false) rfl (by simp [hz_a5]) (by simp [hz_a5]) ?_
    refine ListK.done (hK _ _ ?_)
    clear hK K
    refine wpIn_cond (t := false) (by simp [hz_a5]) (wpIn_skip ?_)
    generalize hA : Act.put _ _ _ = a7
    have hz_a7 : a7.tmps.size = 169 := by rw [← hA]; simp only [size_put, hz_a5]
    have s1 : a7.eval (.tmp 1) = .int .i64 ow := by rw [← hA]; exact (by simp [u1])
    have s2 : a7.eval (.tmp 2) = .int .i64 on := by rw [← hA]; exact (by simp [u2])
    have s3 : a7.eval (.tmp 3) = .pointer (some ⟨b3, 0, none⟩) := by rw [← hA]; exact (by simp [u3])
    have s7 : a7.eval (.tmp 7) = .pointer (some ⟨p1, 0, none⟩) := by rw [← hA]; exact (by simp [u7])
    have s8 : a7.eval (.tmp 8) = .int .i64 (holdsE o t l ow on) := by rw [← hA]; exact (by simp [u8])
    have s9 : a7.eval (.tmp 9) = .slice A9 (reachC o t l on).length c9 := by rw [← hA]; exact (by simp [u9])
    have s10 : a7.eval (.tmp 10) = .slice A10 (reachS o t l on).length c10 := by rw [← hA]; exact (by simp [u10])
    have s11 : a7.eval (.tmp 11) = .int .i64 (reachE o t l on) := by rw [← hA]; exact (by simp [u11])
    have s12 : a7.eval (.tmp 12) = .int .i64 wa := by rw [← hA]; exact (by simp [u12])
    have s13 : a7.eval (.tmp 13) = .int .i64 0 := by rw [← hA]; exact (by simp [u13])
    have hd_a7 : a7.defers = [] := by rw [← hA]; simp only [defers_put, hd_a5]
    clear hA
    show hs_d.wpIn _ _ _ _ _ _
    unfold hs_d
    refine wpIn_seq (region_p 1 ?_)
    intro K hK
    refine ListK.assign (i := 0) (v := .slice none 0 0) rfl (by simp) ?_
    refine ListK.done (hK _ _ ?_)
    clear hK K
    refine wpIn_seq (wpIn_seq (region_p 2 ?_))
    intro K hK
    refine ListK.move (i := 0) (v := .int .i64 0) rfl (by simp [s13]) ?_
    refine ListK.bin (i := 1) (u := .int .i64 0) (u' := .int .i64 0) (v := .bool true) rfl (by simp [hz_a7]) (by simp) (eql27T rfl _) ?_
    refine ListK.done (hK _ _ ?_)
    clear hK K
    refine wpIn_cond (t := true) (by simp [hz_a7]) ?_
    generalize hA : Act.put _ _ _ = a8
    have hz_a8 : a8.tmps.size = 169 := by rw [← hA]; simp only [size_put, hz_a7]
    have r1 : a8.eval (.tmp 1) = .int .i64 ow := by rw [← hA]; exact (by simp [s1])
    have r2 : a8.eval (.tmp 2) = .int .i64 on := by rw [← hA]; exact (by simp [s2])
    have r3 : a8.eval (.tmp 3) = .pointer (some ⟨b3, 0, none⟩) := by rw [← hA]; exact (by simp [s3])
    have r7 : a8.eval (.tmp 7) = .pointer (some ⟨p1, 0, none⟩) := by rw [← hA]; exact (by simp [s7])
    have r8 : a8.eval (.tmp 8) = .int .i64 (holdsE o t l ow on) := by rw [← hA]; exact (by simp [s8])
    have r9 : a8.eval (.tmp 9) = .slice A9 (reachC o t l on).length c9 := by rw [← hA]; exact (by simp [s9])
    have r10 : a8.eval (.tmp 10) = .slice A10 (reachS o t l on).length c10 := by rw [← hA]; exact (by simp [s10])
    have r11 : a8.eval (.tmp 11) = .int .i64 (reachE o t l on) := by rw [← hA]; exact (by simp [s11])
    have r12 : a8.eval (.tmp 12) = .int .i64 wa := by rw [← hA]; exact (by simp [s12])
    have r13 : a8.eval (.tmp 13) = .int .i64 0 := by rw [← hA]; exact (by simp [s13])
    have r14 : a8.eval (.tmp 14) = .slice none 0 0 := by rw [← hA]; exact (by simp [hz_a7])
    have hd_a8 : a8.defers = [] := by rw [← hA]; simp only [defers_put, hd_a7]
    clear hA
    refine wpIn_seq (region_p 7 ?_)
    intro K hK
    refine ListK.load (i := 0) (p := ⟨b3, 0, none⟩) (v := .agg #[.int .i64 o, .int .i64 t, .slice A l.length c]) rfl (by simp [r3]) (ld24 ⟨wb.cell 0, wb.cell 1, wb.cell 2⟩) ?_
    refine ListK.call (i := 1) (vs := #[.agg #[.int .i64 o, .int .i64 t, .slice A l.length c], .bool true]) rfl (enters_of Try.func30 (by kernel_rfl) rfl) (by simp [hz_a8]) (((truths_law o t A l c true W8 (by omega) (by omega) (by omega) hmm hdd hs (by omega))).mono ?_)
    rintro _ W9 ⟨vT, rfl, hLT⟩
    have hb := hLT.low
    replace hB1 := hB1.trans (hb.mono hB1.size)
    replace hs := (hs.below hb (Nat.le_refl _)).more hb.size
    replace h9 := (h9.below hb (Nat.le_refl _)).more hb.size
    replace h10 := (h10.below hb (Nat.le_refl _)).more hb.size
    replace wb := wb.below hb wb.lt
    replace wr := wr.below hb wr.lt
    refine ⟨_, rfl, ?_⟩
    refine ListK.move (i := 2) (v := .tuple #[vT, .int .i64 (truthsE t l true)]) rfl (by simp [hz_a8]) ?_
    refine ListK.extract (i := 3) (u := .tuple #[vT, .int .i64 (truthsE t l true)]) (v := vT) rfl (by simp [hz_a8]) (ex0 _ _ _) ?_
    refine ListK.extract (i := 4) (u := .tuple #[vT, .int .i64 (truthsE t l true)]) (v := .int .i64 (truthsE t l true)) rfl (by simp [hz_a8]) (ex1 _ _ _) ?_
    refine ListK.assign (i := 5) (v := vT) rfl (by simp [hz_a8]) ?_
    refine ListK.assign (i := 6) (v := .int .i64 (truthsE t l true)) rfl (by simp [hz_a8]) ?_
    refine ListK.done (hK _ _ ?_)
    clear hK K
    generalize hA : Act.put _ _ _ = a9
    have hz_a9 : a9.tmps.size = 169 := by rw [← hA]; simp only [size_put, hz_a8]
    have q1 : a9.eval (.tmp 1) = .int .i64 ow := by rw [← hA]; exact (by simp [r1])
    have q2 : a9.eval (.tmp 2) = .int .i64 on := by rw [← hA]; exact (by simp [r2])
    have q3 : a9.eval (.tmp 3) = .pointer (some ⟨b3, 0, none⟩) := by rw [← hA]; exact (by simp [r3])
    have q7 : a9.eval (.tmp 7) = .pointer (some ⟨p1, 0, none⟩) := by rw [← hA]; exact (by simp [r7])
    have q8 : a9.eval (.tmp 8) = .int .i64 (holdsE o t l ow on) := by rw [← hA]; exact (by simp [r8])
    have q9 : a9.eval (.tmp 9) = .slice A9 (reachC o t l on).length c9 := by rw [← hA]; exact (by simp [r9])
    have q10 : a9.eval (.tmp 10) = .slice A10 (reachS o t l on).length c10 := by rw [← hA]; exact (by simp [r10])
    have q11 : a9.eval (.tmp 11) = .int .i64 (reachE o t l on) := by rw [← hA]; exact (by simp [r11])
    have q12 : a9.eval (.tmp 12) = .int .i64 wa := by rw [← hA]; exact (by simp [r12])
    have q13 : a9.eval (.tmp 13) = .int .i64 (truthsE t l true) := by rw [← hA]; exact (by simp [hz_a8])
    have q14 : a9.eval (.tmp 14) = vT := by rw [← hA]; exact (by simp [hz_a8])
    have hd_a9 : a9.defers = [] := by rw [← hA]; simp only [defers_put, hd_a8]
    clear hA
    have hgg : truthsE t l true = 0 → Valid o t l ∧ fitsB t l = true ∧ 0 ≤ on ∧ on ≤ 100 ∧ (allL t l).length ≤ 1000000 ∧ ∃ W0, LL W0 vT (allL t l) W9 := fun h => by
      refine ⟨hv, hTE.1 h, hon.1, hon.2, hle, ?_⟩
      rw [if_pos h] at hLT
      exact ⟨_, hLT⟩
    rcases hw with rfl | rfl
    · have hHC : holdsE o t l ow on = truthsE t l true := hHE
      refine wpIn_seq (region_p 2 ?_)
      intro K hK
      refine ListK.move (i := 0) (v := .int .i64 0) rfl (by simp [q12]) ?_
      refine ListK.bin (i := 1) (u := .int .i64 0) (u' := .int .i64 0) (v := .bool true) rfl (by simp [hz_a9]) (by simp) (eql27T rfl _) ?_
      refine ListK.done (hK _ _ ?_)
      clear hK K
      refine wpIn_cond (t := true) (by simp [hz_a9]) ?_
      refine region_p 2 ?_
      intro K hK
      refine ListK.move (i := 0) (v := .int .i64 (truthsE t l true)) rfl (by simp [q13]) ?_
      refine ListK.assign (i := 1) (v := .int .i64 (truthsE t l true)) rfl (by simp [hz_a9]) ?_
      refine ListK.done (hK _ _ ?_)
      clear hK K
      generalize hA : Act.put _ _ _ = b1
      have hz_b1 : b1.tmps.size = 169 := by rw [← hA]; simp only [size_put, hz_a9]
      have d1 : b1.eval (.tmp 1) = .int .i64 ow := by rw [← hA]; exact (by simp [q1])
      have d2 : b1.eval (.tmp 2) = .int .i64 on := by rw [← hA]; exact (by simp [q2])
      have d3 : b1.eval (.tmp 3) = .pointer (some ⟨b3, 0, none⟩) := by rw [← hA]; exact (by simp [q3])
      have d7 : b1.eval (.tmp 7) = .pointer (some ⟨p1, 0, none⟩) := by rw [← hA]; exact (by simp [q7])
      have d8 : b1.eval (.tmp 8) = .int .i64 (holdsE o t l ow on) := by rw [← hA]; exact (by simp [q8])
      have d9 : b1.eval (.tmp 9) = .slice A9 (reachC o t l on).length c9 := by rw [← hA]; exact (by simp [q9])
      have d10 : b1.eval (.tmp 10) = .slice A10 (reachS o t l on).length c10 := by rw [← hA]; exact (by simp [q10])
      have d11 : b1.eval (.tmp 11) = .int .i64 (reachE o t l on) := by rw [← hA]; exact (by simp [q11])
      have d12 : b1.eval (.tmp 12) = .int .i64 (truthsE t l true) := by rw [← hA]; exact (by simp [hz_a9])
      have d13 : b1.eval (.tmp 13) = .int .i64 (truthsE t l true) := by rw [← hA]; exact (by simp [q13])
      have d14 : b1.eval (.tmp 14) = vT := by rw [← hA]; exact (by simp [q14])
      have hd_b1 : b1.defers = [] := by rw [← hA]; simp only [defers_put, hd_a9]
      clear hA
      exact hs_fin hHC.symm hRE.symm hgg (fun h => h) hz_b1 hd_b1 d1 d2 d3 d7 d8 d9 d10 d11 d12 d13 d14 wb hs wr hB1 h9 h10
    · have hHC : holdsE o t l ow on = 2 := hHE
      refine wpIn_seq (region_p 2 ?_)
      intro K hK
      refine ListK.move (i := 0) (v := .int .i64 2) rfl (by simp [q12]) ?_
      refine ListK.bin (i := 1) (u := .int .i64 2) (u' := .int .i64 0) (v := .bool false) rfl (by simp [hz_a9]) (by simp) (eql27F (by decide) _) ?_
      refine ListK.done (hK _ _ ?_)
      clear hK K
      refine wpIn_cond (t := false) (by simp [hz_a9]) (wpIn_skip ?_)
      generalize hA : Act.put _ _ _ = b1
      have hz_b1 : b1.tmps.size = 169 := by rw [← hA]; simp only [size_put, hz_a9]
      have d1 : b1.eval (.tmp 1) = .int .i64 ow := by rw [← hA]; exact (by simp [q1])
      have d2 : b1.eval (.tmp 2) = .int .i64 on := by rw [← hA]; exact (by simp [q2])
      have d3 : b1.eval (.tmp 3) = .pointer (some ⟨b3, 0, none⟩) := by rw [← hA]; exact (by simp [q3])
      have d7 : b1.eval (.tmp 7) = .pointer (some ⟨p1, 0, none⟩) := by rw [← hA]; exact (by simp [q7])
      have d8 : b1.eval (.tmp 8) = .int .i64 (holdsE o t l ow on) := by rw [← hA]; exact (by simp [q8])
      have d9 : b1.eval (.tmp 9) = .slice A9 (reachC o t l on).length c9 := by rw [← hA]; exact (by simp [q9])
      have d10 : b1.eval (.tmp 10) = .slice A10 (reachS o t l on).length c10 := by rw [← hA]; exact (by simp [q10])
      have d11 : b1.eval (.tmp 11) = .int .i64 (reachE o t l on) := by rw [← hA]; exact (by simp [q11])
      have d12 : b1.eval (.tmp 12) = .int .i64 2 := by rw [← hA]; exact (by simp [q12])
      have d13 : b1.eval (.tmp 13) = .int .i64 (truthsE t l true) := by rw [← hA]; exact (by simp [q13])
      have d14 : b1.eval (.tmp 14) = vT := by rw [← hA]; exact (by simp [q14])
      have hd_b1 : b1.defers = [] := by rw [← hA]; simp only [defers_put, hd_a9]
      clear hA
      exact hs_fin hHC.symm hRE.symm hgg (fun _ => by decide) hz_b1 hd_b1 d1 d2 d3 d7 d8 d9 d10 d11 d12 d13 d14 wb hs wr hB1 h9 h10
end
set_option maxHeartbeats 8000000 in
theorem holds_all (o t : Int) (A : Option Addr) (l : List Sale) (c : Nat) (ow on : Int) (W : World) (hs : SalesAt W W.heap.size A l) :
    Calls Try.prog 6 #[.agg #[.int .i64 o, .int .i64 t, .slice A l.length c], .int .i64 ow, .int .i64 on] W (TP W true) := by
  refine (callsIn_wide (n := 5)).1 (callsIn_of_wp Try.func6 body6 trivial ?_ rfl)
  obtain ⟨a, ha⟩ : ∃ a : Act, a = { tmps := #[.agg #[.int .i64 o, .int .i64 t, .slice A l.length c], .int .i64 ow, .int .i64 on] ++ Array.replicate (Try.f6.ntmps - (#[.agg #[.int .i64 o, .int .i64 t, .slice A l.length c], .int .i64 ow, .int .i64 on] : Array Value).size) undef, defers := [] } := ⟨_, rfl⟩
  have hsz : a.tmps.size = 169 := by rw [ha]; simp [Try.ntmps6]
  have t0 : a.eval (.tmp 0) = .agg #[.int .i64 o, .int .i64 t, .slice A l.length c] := by rw [ha]; simp [Act.eval]
  have t1 : a.eval (.tmp 1) = .int .i64 ow := by rw [ha]; simp [Act.eval]
  have t2 : a.eval (.tmp 2) = .int .i64 on := by rw [ha]; simp [Act.eval]
  have hdf : a.defers = [] := by rw [ha]
  rw [← ha]
  clear ha
  have hret : ∀ (a' : Act) (W' : World), a'.defers = [] → a'.eval (.tmp 6) = .bool true → Below W.heap.size W W' → bodyPost Try.prog Try.f6 (TP W true) .ret a' W' := fun a' W' hd h4 hb =>
    bodyPost_ret (v := .bool true) (res1 Try.results6 h4) hd ⟨rfl, hb⟩
  unfold code6
  refine wpIn_seq (region_p 2 ?_)
  intro K hK
  refine ListK.box (i := 0) (u := .agg #[.int .i64 o, .int .i64 t, .slice A l.length c]) rfl (by simp [t0]) (bx24 W _ _ _ _ _) ?_
  refine ListK.assign (i := 1) (v := .bool false) rfl (by simp) ?_
  refine ListK.done (hK _ _ ?_)
  clear hK K
  have wb := Whole.new W 24 #[.int .i64 o, .int .i64 t, .slice A l.length c]
  have hB1 : Below W.heap.size W (W.alloc (.cells #[.int .i64 o, .int .i64 t, .slice A l.length c] 24)) := (Below.refl _ W).alloc (Nat.le_refl _) _
  have hS1 := hB1.size
  have hlt : W.heap.size < (W.alloc (.cells #[.int .i64 o, .int .i64 t, .slice A l.length c] 24)).heap.size := by simp
  generalize hb3 : W.heap.size = b3 at *
  generalize W.alloc (.cells #[.int .i64 o, .int .i64 t, .slice A l.length c] 24) = W1 at *
  replace hs : SalesAt W1 W1.heap.size A l := (hs.below hB1 (Nat.le_refl _)).more hS1
  generalize hA : Act.put _ _ _ = a1
  have hz_a1 : a1.tmps.size = 169 := by rw [← hA]; simp only [size_put, hsz]
  have u1 : a1.eval (.tmp 1) = .int .i64 ow := by rw [← hA]; exact (by simp [t1])
  have u2 : a1.eval (.tmp 2) = .int .i64 on := by rw [← hA]; exact (by simp [t2])
  have u3 : a1.eval (.tmp 3) = .pointer (some ⟨b3, 0, none⟩) := by rw [← hA]; exact (by simp [hsz])
  have hd_a1 : a1.defers = [] := by rw [← hA]; simp only [defers_put, hdf]
  clear hA
  refine wpIn_seq (wpIn_seq (region_p 3 ?_))
  intro K hK
  refine ListK.load (i := 0) (p := ⟨b3, 0, none⟩) (v := .agg #[.int .i64 o, .int .i64 t, .slice A l.length c]) rfl (by simp [u3]) (ld24 ⟨wb.cell 0, wb.cell 1, wb.cell 2⟩) ?_
  refine ListK.call (i := 1) (vs := #[.agg #[.int .i64 o, .int .i64 t, .slice A l.length c]]) rfl (enters_of Try.func28 (by kernel_rfl) rfl) (by simp [hz_a1]) (((few_any o t A l c W1 hs)).mono ?_)
  rintro _ W2 ⟨bb, rfl, hb_t1, hfew⟩
  have hL_t1 := hB1.trans (hb_t1.mono (by have := hB1.size; omega))
  replace hs := (hs.below hb_t1 (Nat.le_refl _)).more hb_t1.size
  replace wb := wb.below hb_t1 wb.lt
  replace hB1 := hL_t1
  replace hlt : b3 < W2.heap.size := wb.lt
  refine ⟨_, rfl, ?_⟩
  refine ListK.un (i := 2) (u := .bool bb) (v := .bool (!bb)) rfl (by simp [hz_a1]) (not4 _ _) ?_
  refine ListK.done (hK _ _ ?_)
  clear hK K
  cases bb with
  | false =>
    refine wpIn_cond (t := true) (by simp [hz_a1]) ?_
    generalize hA : Act.put _ _ _ = a2
    have hz_a2 : a2.tmps.size = 169 := by rw [← hA]; simp only [size_put, hz_a1]
    have v3 : a2.eval (.tmp 3) = .pointer (some ⟨b3, 0, none⟩) := by rw [← hA]; exact (by simp [u3])
    have hd_a2 : a2.defers = [] := by rw [← hA]; simp only [defers_put, hd_a1]
    clear hA
    refine wpIn_seq (region_p 2 ?_)
    intro K hK
    refine ListK.call (i := 0) (vs := #[]) rfl (enters_of Try.func16 (by kernel_rfl) rfl) (by simp) (((wakes_any W2)).mono ?_)
    rintro _ W3 ⟨rfl, hb_t2⟩
    have hL_t2 := hB1.trans (hb_t2.mono (by have := hB1.size; omega))
    replace hs := (hs.below hb_t2 (Nat.le_refl _)).more hb_t2.size
    replace wb := wb.below hb_t2 wb.lt
    replace hB1 := hL_t2
    replace hlt : b3 < W3.heap.size := wb.lt
    refine ⟨_, rfl, ?_⟩
    refine ListK.assign (i := 1) (v := .bool true) rfl (by simp [hz_a2]) ?_
    refine ListK.done (hK _ _ (wpIn_ret ?_))
    exact hret _ _ (by simp only [defers_put, hd_a2]) (by simp [hz_a2]) hB1
  | true =>
    obtain ⟨hl12, hfw⟩ := hfew rfl
    refine wpIn_cond (t := false) (by simp [hz_a1]) (wpIn_skip ?_)
    generalize hA : Act.put _ _ _ = a2
    have hz_a2 : a2.tmps.size = 169 := by rw [← hA]; simp only [size_put, hz_a1]
    have v1 : a2.eval (.tmp 1) = .int .i64 ow := by rw [← hA]; exact (by simp [u1])
    have v2 : a2.eval (.tmp 2) = .int .i64 on := by rw [← hA]; exact (by simp [u2])
    have v3 : a2.eval (.tmp 3) = .pointer (some ⟨b3, 0, none⟩) := by rw [← hA]; exact (by simp [u3])
    have hd_a2 : a2.defers = [] := by rw [← hA]; simp only [defers_put, hd_a1]
    clear hA
    refine wpIn_seq (region_p 11 ?_)
    intro K hK
    refine ListK.load (i := 0) (p := ⟨b3, 0, none⟩) (v := .agg #[.int .i64 o, .int .i64 t, .slice A l.length c]) rfl (by simp [v3]) (ld24 ⟨wb.cell 0, wb.cell 1, wb.cell 2⟩) ?_
    refine ListK.call (i := 1) (vs := #[.agg #[.int .i64 o, .int .i64 t, .slice A l.length c]]) rfl (enters_of Try.func18 (by kernel_rfl) rfl) (by simp [hz_a2]) (((batch_any o t A l c W2 (by omega) hs)).mono ?_)
    rintro _ W3 ⟨A_t2, c_t2, rfl, hs_t2, hb_t2⟩
    have hL_t2 := hB1.trans (hb_t2.mono (by have := hB1.size; omega))
    replace hs := (hs.below hb_t2 (Nat.le_refl _)).more hb_t2.size
    replace wb := wb.below hb_t2 wb.lt
    replace hB1 := hL_t2
    replace hlt : b3 < W3.heap.size := wb.lt
    refine ⟨_, rfl, ?_⟩
    refine ListK.move (i := 2) (v := .int .i64 ow) rfl (by simp [v1]) ?_
    refine ListK.move (i := 3) (v := .int .i64 on) rfl (by simp [v2]) ?_
    refine ListK.call (i := 4) (vs := #[.agg #[.int .i64 o, .int .i64 t, .slice A_t2 l.length c_t2], .int .i64 ow, .int .i64 on]) rfl (enters_of Try.func32 (by kernel_rfl) rfl) (by simp [hz_a2]) (((holds_api o t A_t2 l c_t2 ow on W3 (by omega) hs_t2)).mono ?_)
    rintro _ W4 ⟨rfl, hb_t3⟩
    have hL_t3 := hB1.trans (hb_t3.mono (by have := hB1.size; omega))
    replace hs := (hs.below hb_t3 (Nat.le_refl _)).more hb_t3.size
    replace wb := wb.below hb_t3 wb.lt
    replace hB1 := hL_t3
    replace hlt : b3 < W4.heap.size := wb.lt
    refine ⟨_, rfl, ?_⟩
    refine ListK.move (i := 5) (v := .tuple #[.agg #[.int .i64 (holdsV o t l ow on).1, .int .i64 (holdsV o t l ow on).2], .int .i64 (holdsE o t l ow on)]) rfl (by simp [hz_a2]) ?_
    refine ListK.extract (i := 6) (u := .tuple #[.agg #[.int .i64 (holdsV o t l ow on).1, .int .i64 (holdsV o t l ow on).2], .int .i64 (holdsE o t l ow on)]) (v := .agg #[.int .i64 (holdsV o t l ow on).1, .int .i64 (holdsV o t l ow on).2]) rfl (by simp [hz_a2]) (ex0 _ _ _) ?_
    refine ListK.extract (i := 7) (u := .tuple #[.agg #[.int .i64 (holdsV o t l ow on).1, .int .i64 (holdsV o t l ow on).2], .int .i64 (holdsE o t l ow on)]) (v := .int .i64 (holdsE o t l ow on)) rfl (by simp [hz_a2]) (ex1 _ _ _) ?_
    refine ListK.alloc (i := 8) rfl (al46 W4) ?_
    refine ListK.store (i := 9) (u := .pointer (some ⟨W4.heap.size, 0, none⟩)) (u' := .agg #[.int .i64 (holdsV o t l ow on).1, .int .i64 (holdsV o t l ow on).2]) rfl (by simp [hz_a2]) (by simp [hz_a2]) sa46 ?_
    refine ListK.assign (i := 10) (v := .int .i64 (holdsE o t l ow on)) rfl (by simp [hz_a2]) ?_
    refine ListK.done (hK _ _ ?_)
    clear hK K
    obtain ⟨w_t4, hb_t4⟩ := put46 W4 ((holdsV o t l ow on).1) ((holdsV o t l ow on).2)
    have hL_t4 := hB1.trans (hb_t4.mono (by have := hB1.size; omega))
    replace hs := (hs.below hb_t4 (Nat.le_refl _)).more hb_t4.size
    replace wb := wb.below hb_t4 wb.lt
    replace hB1 := hL_t4
    generalize W4.heap.size = p_t4 at *
    generalize ((W4.alloc (.cells #[.int .i64 0, .int .i64 0] 46)).setCell ⟨p_t4, 0, none⟩ (.int .i64 ((holdsV o t l ow on).1))).setCell ⟨p_t4, 1, none⟩ (.int .i64 ((holdsV o t l ow on).2)) = W5 at *
    replace hlt : b3 < W5.heap.size := wb.lt
    generalize hA : Act.put _ _ _ = a3
    have hz_a3 : a3.tmps.size = 169 := by rw [← hA]; simp only [size_put, hz_a2]
    have w1 : a3.eval (.tmp 1) = .int .i64 ow := by rw [← hA]; exact (by simp [v1])
    have w2 : a3.eval (.tmp 2) = .int .i64 on := by rw [← hA]; exact (by simp [v2])
    have w3 : a3.eval (.tmp 3) = .pointer (some ⟨b3, 0, none⟩) := by rw [← hA]; exact (by simp [v3])
    have w7 : a3.eval (.tmp 7) = .pointer (some ⟨p_t4, 0, none⟩) := by rw [← hA]; exact (by simp [hz_a2])
    have w8 : a3.eval (.tmp 8) = .int .i64 (holdsE o t l ow on) := by rw [← hA]; exact (by simp [hz_a2])
    have hd_a3 : a3.defers = [] := by rw [← hA]; simp only [defers_put, hd_a2]
    clear hA
    refine wpIn_seq (region_p 11 ?_)
    intro K hK
    refine ListK.load (i := 0) (p := ⟨b3, 0, none⟩) (v := .agg #[.int .i64 o, .int .i64 t, .slice A l.length c]) rfl (by simp [w3]) (ld24 ⟨wb.cell 0, wb.cell 1, wb.cell 2⟩) ?_
    refine ListK.call (i := 1) (vs := #[.agg #[.int .i64 o, .int .i64 t, .slice A l.length c]]) rfl (enters_of Try.func18 (by kernel_rfl) rfl) (by simp [hz_a3]) (((batch_any o t A l c W5 (by omega) hs)).mono ?_)
    rintro _ W6 ⟨A_t5, c_t5, rfl, hs_t5, hb_t5⟩
    have hL_t5 := hB1.trans (hb_t5.mono (by have := hB1.size; omega))
    replace hs := (hs.below hb_t5 (Nat.le_refl _)).more hb_t5.size
    replace wb := wb.below hb_t5 wb.lt
    replace w_t4 := w_t4.below hb_t5 w_t4.lt
    replace hB1 := hL_t5
    replace hlt : b3 < W6.heap.size := wb.lt
    refine ⟨_, rfl, ?_⟩
    refine ListK.move (i := 2) (v := .int .i64 on) rfl (by simp [w2]) ?_
    refine ListK.call (i := 3) (vs := #[.agg #[.int .i64 o, .int .i64 t, .slice A_t5 l.length c_t5], .int .i64 on]) rfl (enters_of Try.func33 (by kernel_rfl) rfl) (by simp [hz_a3]) (((reach_any o t A_t5 l c_t5 on W6 (by omega) hs_t5)).mono ?_)
    rintro _ W7 ⟨ve, vs, rfl, hrm⟩
    obtain ⟨⟨Ae_t6, ce_t6, rfl, _, ie_t6⟩, ⟨As_t6, cs_t6, rfl, _, is_t6⟩⟩ := hrm.ri
    have hb_t6 := hrm.low
    clear hrm
    have hL_t6 := hB1.trans (hb_t6.mono (by have := hB1.size; omega))
    replace hs := (hs.below hb_t6 (Nat.le_refl _)).more hb_t6.size
    replace wb := wb.below hb_t6 wb.lt
    replace w_t4 := w_t4.below hb_t6 w_t4.lt
    replace hB1 := hL_t6
    replace hlt : b3 < W7.heap.size := wb.lt
    refine ⟨_, rfl, ?_⟩
    refine ListK.move (i := 4) (v := .tuple #[.slice Ae_t6 (reachC o t l on).length ce_t6, .slice As_t6 (reachS o t l on).length cs_t6, .int .i64 (reachE o t l on)]) rfl (by simp [hz_a3]) ?_
    refine ListK.extract (i := 5) (u := .tuple #[.slice Ae_t6 (reachC o t l on).length ce_t6, .slice As_t6 (reachS o t l on).length cs_t6, .int .i64 (reachE o t l on)]) (v := .slice Ae_t6 (reachC o t l on).length ce_t6) rfl (by simp [hz_a3]) (ex3_0 _ _ _ _) ?_
    refine ListK.extract (i := 6) (u := .tuple #[.slice Ae_t6 (reachC o t l on).length ce_t6, .slice As_t6 (reachS o t l on).length cs_t6, .int .i64 (reachE o t l on)]) (v := .slice As_t6 (reachS o t l on).length cs_t6) rfl (by simp [hz_a3]) (ex3_1 _ _ _ _) ?_
    refine ListK.extract (i := 7) (u := .tuple #[.slice Ae_t6 (reachC o t l on).length ce_t6, .slice As_t6 (reachS o t l on).length cs_t6, .int .i64 (reachE o t l on)]) (v := .int .i64 (reachE o t l on)) rfl (by simp [hz_a3]) (ex3_2 _ _ _ _) ?_
    refine ListK.assign (i := 8) (v := .slice Ae_t6 (reachC o t l on).length ce_t6) rfl (by simp [hz_a3]) ?_
    refine ListK.assign (i := 9) (v := .slice As_t6 (reachS o t l on).length cs_t6) rfl (by simp [hz_a3]) ?_
    refine ListK.assign (i := 10) (v := .int .i64 (reachE o t l on)) rfl (by simp [hz_a3]) ?_
    refine ListK.done (hK _ _ ?_)
    clear hK K
    generalize hA : Act.put _ _ _ = a4
    have hz_a4 : a4.tmps.size = 169 := by rw [← hA]; simp only [size_put, hz_a3]
    have x1 : a4.eval (.tmp 1) = .int .i64 ow := by rw [← hA]; exact (by simp [w1])
    have x2 : a4.eval (.tmp 2) = .int .i64 on := by rw [← hA]; exact (by simp [w2])
    have x3 : a4.eval (.tmp 3) = .pointer (some ⟨b3, 0, none⟩) := by rw [← hA]; exact (by simp [w3])
    have x7 : a4.eval (.tmp 7) = .pointer (some ⟨p_t4, 0, none⟩) := by rw [← hA]; exact (by simp [w7])
    have x8 : a4.eval (.tmp 8) = .int .i64 (holdsE o t l ow on) := by rw [← hA]; exact (by simp [w8])
    have x9 : a4.eval (.tmp 9) = .slice Ae_t6 (reachC o t l on).length ce_t6 := by rw [← hA]; exact (by simp [hz_a3])
    have x10 : a4.eval (.tmp 10) = .slice As_t6 (reachS o t l on).length cs_t6 := by rw [← hA]; exact (by simp [hz_a3])
    have x11 : a4.eval (.tmp 11) = .int .i64 (reachE o t l on) := by rw [← hA]; exact (by simp [hz_a3])
    have hd_a4 : a4.defers = [] := by rw [← hA]; simp only [defers_put, hd_a3]
    clear hA
    show hs_b.wpIn _ _ _ _ _ _
    unfold hs_b
    have hcv : CV W7 21 #[.agg #[.int .i64 o, .int .i64 t, .slice A l.length c]] (.int .i64 (fault o t l)) := fun W1 hb => (lawFault_any o t A l c W1 hl12 ((hs.below hb (Nat.le_refl _)).more hb.size)).mono fun e w2 h => ⟨_, h.1, rfl, h.2⟩
    refine wpIn_seq (regionHz5 (wideF_plain _) hz_a4 x3 (wb.cell 0) (wb.cell 1) (wb.cell 2) hcv ?_)
    intro a5 W8 hz_a5 hd_t7 hb_t7 hr_t7 hw_t7
    have y1 : a5.eval (.tmp 1) = .int .i64 ow := (hr_t7 1 (by kernel_rfl)).trans x1
    have y2 : a5.eval (.tmp 2) = .int .i64 on := (hr_t7 2 (by kernel_rfl)).trans x2
    have y3 : a5.eval (.tmp 3) = .pointer (some ⟨b3, 0, none⟩) := (hr_t7 3 (by kernel_rfl)).trans x3
    have y7 : a5.eval (.tmp 7) = .pointer (some ⟨p_t4, 0, none⟩) := (hr_t7 7 (by kernel_rfl)).trans x7
    have y8 : a5.eval (.tmp 8) = .int .i64 (holdsE o t l ow on) := (hr_t7 8 (by kernel_rfl)).trans x8
    have y9 : a5.eval (.tmp 9) = .slice Ae_t6 (reachC o t l on).length ce_t6 := (hr_t7 9 (by kernel_rfl)).trans x9
    have y10 : a5.eval (.tmp 10) = .slice As_t6 (reachS o t l on).length cs_t6 := (hr_t7 10 (by kernel_rfl)).trans x10
    have y11 : a5.eval (.tmp 11) = .int .i64 (reachE o t l on) := (hr_t7 11 (by kernel_rfl)).trans x11
    have y12 : a5.eval (.tmp 12) = .int .i64 (fault o t l) := hw_t7 4 12 (by kernel_rfl)
    have y13 : a5.eval (.tmp 13) = .int .i64 (fault o t l) := hw_t7 5 13 (by kernel_rfl)
    have hd_a5 : a5.defers = [] := hd_t7.trans hd_a4
    have hL_t7 := hB1.trans (hb_t7.mono (by have := hB1.size; omega))
    replace hs := (hs.below hb_t7 (Nat.le_refl _)).more hb_t7.size
    replace ie_t6 := (ie_t6.below hb_t7 (Nat.le_refl _)).more hb_t7.size
    replace is_t6 := (is_t6.below hb_t7 (Nat.le_refl _)).more hb_t7.size
    replace wb := wb.below hb_t7 wb.lt
    replace w_t4 := w_t4.below hb_t7 w_t4.lt
    replace hB1 := hL_t7
    replace hlt : b3 < W8.heap.size := wb.lt
    clear hr_t7 hw_t7 hd_t7
    clear hcv
    by_cases h0 : fault o t l = 0
    · have hv := valid_of_fault h0
      have hl8 := hv.len
      have hvt := hv.t0
      have hvt1 := hv.t1
      have ho1 := hv.o1
      have ho6 := hv.o6
      obtain ⟨h5, hp⟩ := hfw h0
      have hle := allL_le hv h5 hp
      have hHE := holdsE_tried hv ow on
      rw [h0] at y12 y13
      have hi1 := in_any ow 0 (o - 1)
      have hi2 := in_any on 0 100
      obtain ⟨rO, hrO⟩ : ∃ b, b = inR ow 0 (o - 1) := ⟨_, rfl⟩
      obtain ⟨rD, hrD⟩ : ∃ b, b = inR on 0 100 := ⟨_, rfl⟩
      rw [← hrO] at hi1 hHE
      rw [← hrD] at hi2 hHE
      cases rO with
      | false =>
        refine wpIn_seq (wpIn_seq (region_p 14 ?_))
        intro K hK
        refine ListK.move (i := 0) (v := .int .i64 0) rfl (by simp [y12]) ?_
        refine ListK.bin (i := 1) (u := .int .i64 0) (u' := .int .i64 0) (v := .bool true) rfl (by simp [hz_a5]) (by simp) (eql27T rfl _) ?_
        refine ListK.move (i := 2) (v := .bool true) rfl (by simp [hz_a5]) ?_
        refine ListK.move (i := 3) (v := .int .i64 ow) rfl (by simp [y1]) ?_ (hw := wanted_g (e := 48) (b' := true) rfl (by simp [hz_a5]) rfl)
        refine ListK.field (i := 4) (u := .pointer (some ⟨b3, 0, none⟩)) (v := .pointer (some ⟨b3, 0, none⟩)) rfl (by simp [y3]) (fa24_0 _) ?_ (hw := wanted_g (e := 48) (b' := true) rfl (by simp [hz_a5]) rfl)
        refine ListK.load (i := 5) (p := ⟨b3, 0, none⟩) (v := .int .i64 o) rfl (by simp [hz_a5]) (ld3 (wb.cell 0)) ?_ (hw := wanted_g (e := 48) (b' := true) rfl (by simp [hz_a5]) rfl)
        refine ListK.bin (i := 6) (u := .int .i64 o) (u' := .int .i64 1) (v := .int .i64 (o - 1)) rfl (by simp [hz_a5]) (by simp) (sub3 (by omega) (by omega) _) ?_ (hw := wanted_g (e := 48) (b' := true) rfl (by simp [hz_a5]) rfl)
        refine ListK.call (i := 7) (vs := #[.int .i64 ow, .int .i64 0, .int .i64 (o - 1)]) rfl (enters_of Try.func31 (by kernel_rfl) rfl) (by simp [hz_a5]) (((hi1 W8)).mono ?_) (hw := wanted_g (e := 48) (b' := true) rfl (by simp [hz_a5]) rfl)
        rintro _ _ ⟨rfl, rfl⟩
        refine ⟨_, rfl, ?_⟩
        refine ListK.move (i := 8) (v := .bool false) rfl (by simp [hz_a5]) ?_ (hw := wanted_g (e := 48) (b' := true) rfl (by simp [hz_a5]) rfl)
        refine ListK.passG (i := 9) (e := 54) (b' := false) rfl rfl (by simp [hz_a5]) rfl ?_
        refine ListK.passG (i := 10) (e := 54) (b' := false) rfl rfl (by simp [hz_a5]) rfl ?_
        refine ListK.pickW (i := 11) (b := false) (v := .bool false) rfl (by simp [hz_a5]) (by simp) ?_ (hw := wanted_g (e := 48) (b' := true) rfl (by simp [hz_a5]) rfl)
        refine ListK.un (i := 12) (u := .bool false) (v := .bool true) rfl (by simp [hz_a5]) (not4 _ _) ?_ (hw := wanted_g (e := 48) (b' := true) rfl (by simp [hz_a5]) rfl)
        refine ListK.pick (i := 13) (b := true) (v := .bool true) rfl (by simp [hz_a5]) (by simp [hz_a5]) ?_
        refine ListK.done (hK _ _ ?_)
        clear hK K
        refine wpIn_cond (t := true) (by simp [hz_a5]) ?_
        refine region_p 1 ?_
        intro K hK
        refine ListK.assign (i := 0) (v := .int .i64 2) rfl (by simp) ?_
        refine ListK.done (hK _ _ ?_)
        clear hK K
        generalize hA : Act.put _ _ _ = a6
        have hz_a6 : a6.tmps.size = 169 := by rw [← hA]; simp only [size_put, hz_a5]
        have z1 : a6.eval (.tmp 1) = .int .i64 ow := by rw [← hA]; exact (by simp [y1])
        have z2 : a6.eval (.tmp 2) = .int .i64 on := by rw [← hA]; exact (by simp [y2])
        have z3 : a6.eval (.tmp 3) = .pointer (some ⟨b3, 0, none⟩) := by rw [← hA]; exact (by simp [y3])
        have z7 : a6.eval (.tmp 7) = .pointer (some ⟨p_t4, 0, none⟩) := by rw [← hA]; exact (by simp [y7])
        have z8 : a6.eval (.tmp 8) = .int .i64 (holdsE o t l ow on) := by rw [← hA]; exact (by simp [y8])
        have z9 : a6.eval (.tmp 9) = .slice Ae_t6 (reachC o t l on).length ce_t6 := by rw [← hA]; exact (by simp [y9])
        have z10 : a6.eval (.tmp 10) = .slice As_t6 (reachS o t l on).length cs_t6 := by rw [← hA]; exact (by simp [y10])
        have z11 : a6.eval (.tmp 11) = .int .i64 (reachE o t l on) := by rw [← hA]; exact (by simp [y11])
        have z12 : a6.eval (.tmp 12) = .int .i64 2 := by rw [← hA]; exact (by simp [hz_a5])
        have z13 : a6.eval (.tmp 13) = .int .i64 0 := by rw [← hA]; exact (by simp [y13])
        have hd_a6 : a6.defers = [] := by rw [← hA]; simp only [defers_put, hd_a5]
        clear hA
        show hs_c.wpIn _ _ _ _ _ _
        exact hs_rest (wa := 2) hv hle (.inr rfl) (fun h => rfl) (by rw [hHE]; simp [truthsE]) hz_a6 hd_a6 z1 z2 z3 z7 z8 z9 z10 z11 z12 z13 wb hs w_t4 (by rw [hb3]; exact hB1) ie_t6 is_t6
      | true =>
        cases rD with
        | false =>
          refine wpIn_seq (wpIn_seq (region_p 14 ?_))
          intro K hK
          refine ListK.move (i := 0) (v := .int .i64 0) rfl (by simp [y12]) ?_
          refine ListK.bin (i := 1) (u := .int .i64 0) (u' := .int .i64 0) (v := .bool true) rfl (by simp [hz_a5]) (by simp) (eql27T rfl _) ?_
          refine ListK.move (i := 2) (v := .bool true) rfl (by simp [hz_a5]) ?_
          refine ListK.move (i := 3) (v := .int .i64 ow) rfl (by simp [y1]) ?_ (hw := wanted_g (e := 48) (b' := true) rfl (by simp [hz_a5]) rfl)
          refine ListK.field (i := 4) (u := .pointer (some ⟨b3, 0, none⟩)) (v := .pointer (some ⟨b3, 0, none⟩)) rfl (by simp [y3]) (fa24_0 _) ?_ (hw := wanted_g (e := 48) (b' := true) rfl (by simp [hz_a5]) rfl)
          refine ListK.load (i := 5) (p := ⟨b3, 0, none⟩) (v := .int .i64 o) rfl (by simp [hz_a5]) (ld3 (wb.cell 0)) ?_ (hw := wanted_g (e := 48) (b' := true) rfl (by simp [hz_a5]) rfl)
          refine ListK.bin (i := 6) (u := .int .i64 o) (u' := .int .i64 1) (v := .int .i64 (o - 1)) rfl (by simp [hz_a5]) (by simp) (sub3 (by omega) (by omega) _) ?_ (hw := wanted_g (e := 48) (b' := true) rfl (by simp [hz_a5]) rfl)
          refine ListK.call (i := 7) (vs := #[.int .i64 ow, .int .i64 0, .int .i64 (o - 1)]) rfl (enters_of Try.func31 (by kernel_rfl) rfl) (by simp [hz_a5]) (((hi1 W8)).mono ?_) (hw := wanted_g (e := 48) (b' := true) rfl (by simp [hz_a5]) rfl)
          rintro _ _ ⟨rfl, rfl⟩
          refine ⟨_, rfl, ?_⟩
          refine ListK.move (i := 8) (v := .bool true) rfl (by simp [hz_a5]) ?_ (hw := wanted_g (e := 48) (b' := true) rfl (by simp [hz_a5]) rfl)
          refine ListK.move (i := 9) (v := .int .i64 on) rfl (by simp [y2]) ?_ (hw := wanted_g (e := 54) (b' := true) rfl (by simp [hz_a5]) rfl)
          refine ListK.call (i := 10) (vs := #[.int .i64 on, .int .i64 0, .int .i64 100]) rfl (enters_of Try.func31 (by kernel_rfl) rfl) (by simp [hz_a5]) (((hi2 W8)).mono ?_) (hw := wanted_g (e := 54) (b' := true) rfl (by simp [hz_a5]) rfl)
          rintro _ _ ⟨rfl, rfl⟩
          refine ⟨_, rfl, ?_⟩
          refine ListK.pickW (i := 11) (b := true) (v := .bool false) rfl (by simp [hz_a5]) (by simp [hz_a5]) ?_ (hw := wanted_g (e := 48) (b' := true) rfl (by simp [hz_a5]) rfl)
          refine ListK.un (i := 12) (u := .bool false) (v := .bool true) rfl (by simp [hz_a5]) (not4 _ _) ?_ (hw := wanted_g (e := 48) (b' := true) rfl (by simp [hz_a5]) rfl)
          refine ListK.pick (i := 13) (b := true) (v := .bool true) rfl (by simp [hz_a5]) (by simp [hz_a5]) ?_
          refine ListK.done (hK _ _ ?_)
          clear hK K
          refine wpIn_cond (t := true) (by simp [hz_a5]) ?_
          refine region_p 1 ?_
          intro K hK
          refine ListK.assign (i := 0) (v := .int .i64 2) rfl (by simp) ?_
          refine ListK.done (hK _ _ ?_)
          clear hK K
          generalize hA : Act.put _ _ _ = a6
          have hz_a6 : a6.tmps.size = 169 := by rw [← hA]; simp only [size_put, hz_a5]
          have z1 : a6.eval (.tmp 1) = .int .i64 ow := by rw [← hA]; exact (by simp [y1])
          have z2 : a6.eval (.tmp 2) = .int .i64 on := by rw [← hA]; exact (by simp [y2])
          have z3 : a6.eval (.tmp 3) = .pointer (some ⟨b3, 0, none⟩) := by rw [← hA]; exact (by simp [y3])
          have z7 : a6.eval (.tmp 7) = .pointer (some ⟨p_t4, 0, none⟩) := by rw [← hA]; exact (by simp [y7])
          have z8 : a6.eval (.tmp 8) = .int .i64 (holdsE o t l ow on) := by rw [← hA]; exact (by simp [y8])
          have z9 : a6.eval (.tmp 9) = .slice Ae_t6 (reachC o t l on).length ce_t6 := by rw [← hA]; exact (by simp [y9])
          have z10 : a6.eval (.tmp 10) = .slice As_t6 (reachS o t l on).length cs_t6 := by rw [← hA]; exact (by simp [y10])
          have z11 : a6.eval (.tmp 11) = .int .i64 (reachE o t l on) := by rw [← hA]; exact (by simp [y11])
          have z12 : a6.eval (.tmp 12) = .int .i64 2 := by rw [← hA]; exact (by simp [hz_a5])
          have z13 : a6.eval (.tmp 13) = .int .i64 0 := by rw [← hA]; exact (by simp [y13])
          have hd_a6 : a6.defers = [] := by rw [← hA]; simp only [defers_put, hd_a5]
          clear hA
          show hs_c.wpIn _ _ _ _ _ _
          exact hs_rest (wa := 2) hv hle (.inr rfl) (fun h => rfl) (by rw [hHE]; simp [truthsE]) hz_a6 hd_a6 z1 z2 z3 z7 z8 z9 z10 z11 z12 z13 wb hs w_t4 (by rw [hb3]; exact hB1) ie_t6 is_t6
        | true =>
          refine wpIn_seq (wpIn_seq (region_p 14 ?_))
          intro K hK
          refine ListK.move (i := 0) (v := .int .i64 0) rfl (by simp [y12]) ?_
          refine ListK.bin (i := 1) (u := .int .i64 0) (u' := .int .i64 0) (v := .bool true) rfl (by simp [hz_a5]) (by simp) (eql27T rfl _) ?_
          refine ListK.move (i := 2) (v := .bool true) rfl (by simp [hz_a5]) ?_
          refine ListK.move (i := 3) (v := .int .i64 ow) rfl (by simp [y1]) ?_ (hw := wanted_g (e := 48) (b' := true) rfl (by simp [hz_a5]) rfl)
          refine ListK.field (i := 4) (u := .pointer (some ⟨b3, 0, none⟩)) (v := .pointer (some ⟨b3, 0, none⟩)) rfl (by simp [y3]) (fa24_0 _) ?_ (hw := wanted_g (e := 48) (b' := true) rfl (by simp [hz_a5]) rfl)
          refine ListK.load (i := 5) (p := ⟨b3, 0, none⟩) (v := .int .i64 o) rfl (by simp [hz_a5]) (ld3 (wb.cell 0)) ?_ (hw := wanted_g (e := 48) (b' := true) rfl (by simp [hz_a5]) rfl)
          refine ListK.bin (i := 6) (u := .int .i64 o) (u' := .int .i64 1) (v := .int .i64 (o - 1)) rfl (by simp [hz_a5]) (by simp) (sub3 (by omega) (by omega) _) ?_ (hw := wanted_g (e := 48) (b' := true) rfl (by simp [hz_a5]) rfl)
          refine ListK.call (i := 7) (vs := #[.int .i64 ow, .int .i64 0, .int .i64 (o - 1)]) rfl (enters_of Try.func31 (by kernel_rfl) rfl) (by simp [hz_a5]) (((hi1 W8)).mono ?_) (hw := wanted_g (e := 48) (b' := true) rfl (by simp [hz_a5]) rfl)
          rintro _ _ ⟨rfl, rfl⟩
          refine ⟨_, rfl, ?_⟩
          refine ListK.move (i := 8) (v := .bool true) rfl (by simp [hz_a5]) ?_ (hw := wanted_g (e := 48) (b' := true) rfl (by simp [hz_a5]) rfl)
          refine ListK.move (i := 9) (v := .int .i64 on) rfl (by simp [y2]) ?_ (hw := wanted_g (e := 54) (b' := true) rfl (by simp [hz_a5]) rfl)
          refine ListK.call (i := 10) (vs := #[.int .i64 on, .int .i64 0, .int .i64 100]) rfl (enters_of Try.func31 (by kernel_rfl) rfl) (by simp [hz_a5]) (((hi2 W8)).mono ?_) (hw := wanted_g (e := 54) (b' := true) rfl (by simp [hz_a5]) rfl)
          rintro _ _ ⟨rfl, rfl⟩
          refine ⟨_, rfl, ?_⟩
          refine ListK.pickW (i := 11) (b := true) (v := .bool true) rfl (by simp [hz_a5]) (by simp [hz_a5]) ?_ (hw := wanted_g (e := 48) (b' := true) rfl (by simp [hz_a5]) rfl)
          refine ListK.un (i := 12) (u := .bool true) (v := .bool false) rfl (by simp [hz_a5]) (not4 _ _) ?_ (hw := wanted_g (e := 48) (b' := true) rfl (by simp [hz_a5]) rfl)
          refine ListK.pick (i := 13) (b := true) (v := .bool false) rfl (by simp [hz_a5]) (by simp [hz_a5]) ?_
          refine ListK.done (hK _ _ ?_)
          clear hK K
          refine wpIn_cond (t := false) (by simp [hz_a5]) (wpIn_skip ?_)
          generalize hA : Act.put _ _ _ = a6
          have hz_a6 : a6.tmps.size = 169 := by rw [← hA]; simp only [size_put, hz_a5]
          have z1 : a6.eval (.tmp 1) = .int .i64 ow := by rw [← hA]; exact (by simp [y1])
          have z2 : a6.eval (.tmp 2) = .int .i64 on := by rw [← hA]; exact (by simp [y2])
          have z3 : a6.eval (.tmp 3) = .pointer (some ⟨b3, 0, none⟩) := by rw [← hA]; exact (by simp [y3])
          have z7 : a6.eval (.tmp 7) = .pointer (some ⟨p_t4, 0, none⟩) := by rw [← hA]; exact (by simp [y7])
          have z8 : a6.eval (.tmp 8) = .int .i64 (holdsE o t l ow on) := by rw [← hA]; exact (by simp [y8])
          have z9 : a6.eval (.tmp 9) = .slice Ae_t6 (reachC o t l on).length ce_t6 := by rw [← hA]; exact (by simp [y9])
          have z10 : a6.eval (.tmp 10) = .slice As_t6 (reachS o t l on).length cs_t6 := by rw [← hA]; exact (by simp [y10])
          have z11 : a6.eval (.tmp 11) = .int .i64 (reachE o t l on) := by rw [← hA]; exact (by simp [y11])
          have z12 : a6.eval (.tmp 12) = .int .i64 0 := by rw [← hA]; exact (by simp [y12])
          have z13 : a6.eval (.tmp 13) = .int .i64 0 := by rw [← hA]; exact (by simp [y13])
          have hd_a6 : a6.defers = [] := by rw [← hA]; simp only [defers_put, hd_a5]
          clear hA
          show hs_c.wpIn _ _ _ _ _ _
          exact hs_rest (wa := 0) hv hle (.inl rfl) (fun h => by rw [← hrD] at h; cases h) (by rw [hHE]; simp [truthsE]) hz_a6 hd_a6 z1 z2 z3 z7 z8 z9 z10 z11 z12 z13 wb hs w_t4 (by rw [hb3]; exact hB1) ie_t6 is_t6
    · have hE : holdsE o t l ow on = fault o t l := by
        unfold holdsE triedE
        rw [if_pos h0]
      have hR : reachE o t l on = fault o t l := by
        unfold reachE triedE
        rw [if_pos h0]
      refine wpIn_seq (wpIn_seq (region_p 14 ?_))
      intro K hK
      refine ListK.move (i := 0) (v := .int .i64 (fault o t l)) rfl (by simp [y12]) ?_
      refine ListK.bin (i := 1) (u := .int .i64 (fault o t l)) (u' := .int .i64 0) (v := .bool false) rfl (by simp [hz_a5]) (by simp) (eql27F h0 _) ?_
      refine ListK.move (i := 2) (v := .bool false) rfl (by simp [hz_a5]) ?_
      refine ListK.passG (i := 3) (e := 48) (b' := false) rfl rfl (by simp [hz_a5]) rfl ?_
      refine ListK.passG (i := 4) (e := 48) (b' := false) rfl rfl (by simp [hz_a5]) rfl ?_
      refine ListK.passG (i := 5) (e := 48) (b' := false) rfl rfl (by simp [hz_a5]) rfl ?_
      refine ListK.passG (i := 6) (e := 48) (b' := false) rfl rfl (by simp [hz_a5]) rfl ?_
      refine ListK.passG (i := 7) (e := 48) (b' := false) rfl rfl (by simp [hz_a5]) rfl ?_
      refine ListK.passG (i := 8) (e := 48) (b' := false) rfl rfl (by simp [hz_a5]) rfl ?_
      refine ListK.passU (i := 9) (e := 54) rfl rfl (by simp [hz_a5]) ?_
      refine ListK.passU (i := 10) (e := 54) rfl rfl (by simp [hz_a5]) ?_
      refine ListK.passG (i := 11) (e := 48) (b' := false) rfl rfl (by simp [hz_a5]) rfl ?_
      refine ListK.passG (i := 12) (e := 48) (b' := false) rfl rfl (by simp [hz_a5]) rfl ?_
      refine ListK.pick (i := 13) (b := false) (v := .bool false) rfl (by simp [hz_a5]) (by simp) ?_
      refine ListK.done (hK _ _ ?_)
      clear hK K
      refine wpIn_cond (t := false) (by simp [hz_a5]) (wpIn_skip ?_)
      generalize hA : Act.put _ _ _ = a6
      have hz_a6 : a6.tmps.size = 169 := by rw [← hA]; simp only [size_put, hz_a5]
      have z1 : a6.eval (.tmp 1) = .int .i64 ow := by rw [← hA]; exact (by simp [y1])
      have z2 : a6.eval (.tmp 2) = .int .i64 on := by rw [← hA]; exact (by simp [y2])
      have z3 : a6.eval (.tmp 3) = .pointer (some ⟨b3, 0, none⟩) := by rw [← hA]; exact (by simp [y3])
      have z7 : a6.eval (.tmp 7) = .pointer (some ⟨p_t4, 0, none⟩) := by rw [← hA]; exact (by simp [y7])
      have z8 : a6.eval (.tmp 8) = .int .i64 (holdsE o t l ow on) := by rw [← hA]; exact (by simp [y8])
      have z9 : a6.eval (.tmp 9) = .slice Ae_t6 (reachC o t l on).length ce_t6 := by rw [← hA]; exact (by simp [y9])
      have z10 : a6.eval (.tmp 10) = .slice As_t6 (reachS o t l on).length cs_t6 := by rw [← hA]; exact (by simp [y10])
      have z11 : a6.eval (.tmp 11) = .int .i64 (reachE o t l on) := by rw [← hA]; exact (by simp [y11])
      have z12 : a6.eval (.tmp 12) = .int .i64 (fault o t l) := by rw [← hA]; exact (by simp [y12])
      have z13 : a6.eval (.tmp 13) = .int .i64 (fault o t l) := by rw [← hA]; exact (by simp [y13])
      have hd_a6 : a6.defers = [] := by rw [← hA]; simp only [defers_put, hd_a5]
      clear hA
      show hs_c.wpIn _ _ _ _ _ _
      unfold hs_c
      refine wpIn_seq (wpIn_seq (region_p 7 ?_))
      intro K hK
      refine ListK.move (i := 0) (v := .int .i64 (fault o t l)) rfl (by simp [z13]) ?_
      refine ListK.bin (i := 1) (u := .int .i64 (fault o t l)) (u' := .int .i64 0) (v := .bool false) rfl (by simp [hz_a6]) (by simp) (eql27F h0 _) ?_
      refine ListK.move (i := 2) (v := .bool false) rfl (by simp [hz_a6]) ?_
      refine ListK.passG (i := 3) (e := 62) (b' := false) rfl rfl (by simp [hz_a6]) rfl ?_
      refine ListK.passG (i := 4) (e := 62) (b' := false) rfl rfl (by simp [hz_a6]) rfl ?_
      refine ListK.passG (i := 5) (e := 62) (b' := false) rfl rfl (by simp [hz_a6]) rfl ?_
      refine ListK.pick (i := 6) (b := false) (v := .bool false) rfl (by simp [hz_a6]) (by simp) ?_
      refine ListK.done (hK _ _ ?_)
      clear hK K
      refine wpIn_cond (t := false) (by simp [hz_a6]) (wpIn_skip ?_)
      generalize hA : Act.put _ _ _ = a7
      have hz_a7 : a7.tmps.size = 169 := by rw [← hA]; simp only [size_put, hz_a6]
      have s1 : a7.eval (.tmp 1) = .int .i64 ow := by rw [← hA]; exact (by simp [z1])
      have s2 : a7.eval (.tmp 2) = .int .i64 on := by rw [← hA]; exact (by simp [z2])
      have s3 : a7.eval (.tmp 3) = .pointer (some ⟨b3, 0, none⟩) := by rw [← hA]; exact (by simp [z3])
      have s7 : a7.eval (.tmp 7) = .pointer (some ⟨p_t4, 0, none⟩) := by rw [← hA]; exact (by simp [z7])
      have s8 : a7.eval (.tmp 8) = .int .i64 (holdsE o t l ow on) := by rw [← hA]; exact (by simp [z8])
      have s9 : a7.eval (.tmp 9) = .slice Ae_t6 (reachC o t l on).length ce_t6 := by rw [← hA]; exact (by simp [z9])
      have s10 : a7.eval (.tmp 10) = .slice As_t6 (reachS o t l on).length cs_t6 := by rw [← hA]; exact (by simp [z10])
      have s11 : a7.eval (.tmp 11) = .int .i64 (reachE o t l on) := by rw [← hA]; exact (by simp [z11])
      have s12 : a7.eval (.tmp 12) = .int .i64 (fault o t l) := by rw [← hA]; exact (by simp [z12])
      have s13 : a7.eval (.tmp 13) = .int .i64 (fault o t l) := by rw [← hA]; exact (by simp [z13])
      have hd_a7 : a7.defers = [] := by rw [← hA]; simp only [defers_put, hd_a6]
      clear hA
      show hs_d.wpIn _ _ _ _ _ _
      unfold hs_d
      refine wpIn_seq (region_p 1 ?_)
      intro K hK
      refine ListK.assign (i := 0) (v := .slice none 0 0) rfl (by simp) ?_
      refine ListK.done (hK _ _ ?_)
      clear hK K
      refine wpIn_seq (wpIn_seq (region_p 2 ?_))
      intro K hK
      refine ListK.move (i := 0) (v := .int .i64 (fault o t l)) rfl (by simp [s13]) ?_
      refine ListK.bin (i := 1) (u := .int .i64 (fault o t l)) (u' := .int .i64 0) (v := .bool false) rfl (by simp [hz_a7]) (by simp) (eql27F h0 _) ?_
      refine ListK.done (hK _ _ ?_)
      clear hK K
      refine wpIn_cond (t := false) (by simp [hz_a7]) (wpIn_skip ?_)
      generalize hA : Act.put _ _ _ = a8
      have hz_a8 : a8.tmps.size = 169 := by rw [← hA]; simp only [size_put, hz_a7]
      have r1 : a8.eval (.tmp 1) = .int .i64 ow := by rw [← hA]; exact (by simp [s1])
      have r2 : a8.eval (.tmp 2) = .int .i64 on := by rw [← hA]; exact (by simp [s2])
      have r3 : a8.eval (.tmp 3) = .pointer (some ⟨b3, 0, none⟩) := by rw [← hA]; exact (by simp [s3])
      have r7 : a8.eval (.tmp 7) = .pointer (some ⟨p_t4, 0, none⟩) := by rw [← hA]; exact (by simp [s7])
      have r8 : a8.eval (.tmp 8) = .int .i64 (holdsE o t l ow on) := by rw [← hA]; exact (by simp [s8])
      have r9 : a8.eval (.tmp 9) = .slice Ae_t6 (reachC o t l on).length ce_t6 := by rw [← hA]; exact (by simp [s9])
      have r10 : a8.eval (.tmp 10) = .slice As_t6 (reachS o t l on).length cs_t6 := by rw [← hA]; exact (by simp [s10])
      have r11 : a8.eval (.tmp 11) = .int .i64 (reachE o t l on) := by rw [← hA]; exact (by simp [s11])
      have r12 : a8.eval (.tmp 12) = .int .i64 (fault o t l) := by rw [← hA]; exact (by simp [s12])
      have r13 : a8.eval (.tmp 13) = .int .i64 (fault o t l) := by rw [← hA]; exact (by simp [s13])
      have r14 : a8.eval (.tmp 14) = .slice none 0 0 := by rw [← hA]; exact (by simp [hz_a7])
      have hd_a8 : a8.defers = [] := by rw [← hA]; simp only [defers_put, hd_a7]
      clear hA
      exact hs_fin hE.symm hR.symm (fun h => absurd h h0) (fun h => h) hz_a8 hd_a8 r1 r2 r3 r7 r8 r9 r10 r11 r12 r13 r14 wb hs w_t4 (by rw [hb3]; exact hB1) ie_t6 is_t6
end Go.Proofs.Ytfcnombmphophaa
