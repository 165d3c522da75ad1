/- Texts for the laws of package recall, part 4: contracts of the program's functions, each for every input that its words name. -/
import Derived.Test.YtfcnombmphophaaN3

set_option linter.unusedVariables false

/-! Wn7: Order, its contract. -/
namespace Go.Proofs.Ytfcnombmphophaa
open Go.RowKit Go.Shelf
theorem row_of_list {W : World} {b g m cap : Nat} {xs : List Int} (h : W.ownsRow b 3 1 (.slice (some ⟨g, 0, none⟩) m cap) m (xs.map (.int .i64 ·))) (hm : m = xs.length) : Row W g m (fun i => (xs[i]?).getD 0) := by
  intro d hd
  refine ⟨?_, ?_⟩
  · have hx : xs[d]? = some xs[d] := List.getElem?_eq_getElem (by omega)
    have := h.cells (g := g) rfl d (.int .i64 xs[d]) (by simp [hx])
    simp only [Addr.add] at this
    simp only [hx, Option.getD_some]
    split at this
    · rename_i h0
      subst h0
      exact this
    · simpa using this
  · rcases h.2 with ⟨h0, _⟩ | ⟨g', cap', cur, h0, _, hg, _⟩
    · cases h0
    · cases h0
      simp [World.frozen?, hg]
theorem rev_list (ns : List Nat) : (List.range ns.length).map (fun i => ((ns.reverse.map fun n => ((n : Nat) : Int))[ns.length - 1 - i]?).getD 0) = ns.map fun n => ((n : Nat) : Int) := by
  apply List.ext_getElem (by simp)
  intro i h1 h2
  simp only [List.length_map, List.length_range] at h1
  have hr : (ns.reverse)[ns.length - 1 - i]? = some ns[i] := by
    rw [List.getElem?_reverse (by omega), List.getElem?_eq_getElem (by omega)]
    congr 2
    omega
  simp only [List.getElem_map, List.getElem_range, List.getElem?_map, hr, Option.map_some, Option.getD_some]
theorem RI.else {Z : Nat → Prop} {W W' : World} {g n c : Nat} {xs : List Int} (h : RI W (.slice (some ⟨g, 0, none⟩) n c) xs) (he : Else Z W W') (hz : ¬ Z g) : RI W' (.slice (some ⟨g, 0, none⟩) n c) xs := by
  obtain ⟨A, c', h1, h2, h3⟩ := h
  cases h1
  refine ⟨_, _, rfl, h2, fun k x hx => ?_⟩
  obtain ⟨b, off, e1, e2, e3⟩ := h3 k x hx
  cases e1
  exact ⟨_, _, rfl, Nat.lt_of_lt_of_le e2 he.size, he.cell hz e3⟩

section
variable {H B kb ge gl ce cl b2 b3 b5 b6 b7 M gd cd : Nat} {o t : Int} {A : Option Addr} {l : List Sale} {c : Nat}
set_option maxRecDepth 10000 in
set_option maxHeartbeats 2000000 in
theorem tailY_wp {a : Act} {W0 W : World} (hv : Valid o t l) (hE : triedE o t l true = 0) (hway : ∃ ns, PathOk t l 0 0 ns) (g : Geo H B kb ge gl b2 b3 b5 b6 b7 M gd) (hog : Og H B kb ge gl ce cl b2 b3 b5 b6 b7 M gd cd o t A l c W) (hrow : Row W gd l.length (fun _ => 0)) (hgd : gd < W.heap.size) (hcd : l.length ≤ cd) (hw2 : Whole W b2 25 #[.slice none 0 0])
    (hB : Below W0.heap.size W0 W) (h2 : W0.heap.size ≤ b2) (h3 : W0.heap.size ≤ b3) (hM : W0.heap.size ≤ M) (hg : W0.heap.size ≤ gd)
    (hsz : a.tmps.size = 29) (hdf : a.defers = []) (t2 : a.eval (.tmp 2) = .pointer (some ⟨b2, 0, none⟩)) (t3 : a.eval (.tmp 3) = .pointer (some ⟨b3, 0, none⟩)) (t7 : a.eval (.tmp 7) = .pointer (some ⟨b7, 0, none⟩)) :
    tailY.wpIn Fence.wide 5 Try.prog (bodyPost Try.prog Try.f23 (YP W0 o t l)) a W := by
  have hHW := hog.hH
  have hl8 := hv.len
  have hlt := g.lt
  unfold tailY
  refine wpIn_seq (region_l 3 (wideF_plain _) (by kernel_rfl) (by kernel_rfl) ?_)
  intro K hK
  refine ListK.load (i := 0) (p := ⟨b7, 0, none⟩) (v := .func (.func 54) #[] (capsZ b2 b3 b5 b6 b7)) rfl (by simp [t7]) (ld93 (hog.c7.cell 0)) ?_
  refine ListK.bld (i := 1) (ps := #[]) (v := stV 0 0) rfl (by simp []) (bd96_0 _) ?_
  refine ListK.callV (i := 2) (f := 54) (caps := (capsZ b2 b3 b5 b6 b7)) (vs := #[stV 0 0]) rfl (enters_of Try.func54 (by kernel_rfl) rfl) (by simp [ev_same, ev_ne, hsz]) (by simp [ev_same, size_put, hsz]) (((from_any hv g (2 ^ l.length) 0 0 _ W (Nat.sub_le _ _) (pow_pos' _) hog hrow hw2)).mono ?_)
  rintro _ W1 ⟨b, rfl, hf⟩
  refine ⟨_, rfl, ?_⟩
  refine ListK.done (hK _ _ ?_)
  clear hK K
  rcases hf with ⟨rfl, ns, v, hy⟩ | ⟨rfl, hno, -⟩
  rotate_left
  · exact absurd hway hno
  generalize hA : Act.put _ _ _ = a1
  have hz_a1 : a1.tmps.size = 29 := by rw [← hA]; simp only [size_put, hsz]
  have u2 : a1.eval (.tmp 2) = .pointer (some ⟨b2, 0, none⟩) := by rw [← hA]; exact (by simp [ev_ne, t2])
  have u3 : a1.eval (.tmp 3) = .pointer (some ⟨b3, 0, none⟩) := by rw [← hA]; exact (by simp [ev_ne, t3])
  have hd_a1 : a1.defers = [] := by rw [← hA]; simp only [defers_put, hdf]
  clear hA
  have b23 : b3 ≠ b2 := g.n2.2.2.2.2.2.2.1
  have hB1 : Below W0.heap.size W0 W1 := hB.trans (hy.el.below hB.size (fun k hk hx => by rcases hx with e | e | e <;> omega))
  have hgo : ∀ W2, RI W2 v (ns.map fun n => ((n : Nat) : Int)) → (∃ A' n' c', v = .slice A' n' c' ∧ ∀ b', A' = some b' → b'.block ≠ b2 ∧ b'.block ≠ b3) → Below W0.heap.size W0 W2 → Whole W2 b2 25 #[v] → Whole W2 b3 25 #[.slice (some ⟨gd, 0, none⟩) l.length cd] → Row W2 gd l.length (daysOf l 0 ns fun _ => 0) → gd < W2.heap.size → ∀ a2 : Act, a2.tmps.size = 29 → a2.defers = [] → a2.eval (.tmp 2) = .pointer (some ⟨b2, 0, none⟩) → a2.eval (.tmp 3) = .pointer (some ⟨b3, 0, none⟩) →
      (Code.seq (.region 10 opsY10 true) .ret).wpIn Fence.wide 5 Try.prog (bodyPost Try.prog Try.f23 (YP W0 o t l)) a2 W2 := by
    rintro W2 hri ⟨A', n', c', rfl, hA'⟩ hb2 w2 w3 hr2 hgd2 a2 hz2 hd2 v2 v3
    refine wpIn_seq (regionY10 (wideF_plain _) hz2 v2 v3 w2 w3 b23 ?_)
    intro a3 hz3 hd3 y2 y3 y4
    have e3 : Else (fun k => k = b2 ∨ k = b3) W2 ((W2.drew.setCell ⟨b2, 0, none⟩ (.slice A' n' c')).setCell ⟨b3, 0, none⟩ (.slice (some ⟨gd, 0, none⟩) l.length cd)) :=
      ((Else.refl (fun k => k = b2 ∨ k = b3) W2).drew.setCell (p := ⟨b2, 0, none⟩) (.inl (.inl rfl)) _).setCell (p := ⟨b3, 0, none⟩) (.inl (.inr rfl)) _
    have x2 : Whole ((W2.drew.setCell ⟨b2, 0, none⟩ (.slice A' n' c')).setCell ⟨b3, 0, none⟩ (.slice (some ⟨gd, 0, none⟩) l.length cd)) b2 25 #[.slice A' n' c'] := (Whole.set (w := W2.drew) w2 0 (.slice A' n' c')).far (p := ⟨b3, 0, none⟩) (Ne.symm b23) _
    have x3 : Whole ((W2.drew.setCell ⟨b2, 0, none⟩ (.slice A' n' c')).setCell ⟨b3, 0, none⟩ (.slice (some ⟨gd, 0, none⟩) l.length cd)) b3 25 #[.slice (some ⟨gd, 0, none⟩) l.length cd] := (Whole.far (w := W2.drew) w3 (p := ⟨b2, 0, none⟩) b23 (.slice A' n' c')).set 0 (.slice (some ⟨gd, 0, none⟩) l.length cd)
    generalize (W2.drew.setCell ⟨b2, 0, none⟩ (.slice A' n' c')).setCell ⟨b3, 0, none⟩ (.slice (some ⟨gd, 0, none⟩) l.length cd) = W3 at *
    refine wpIn_ret ?_
    show bodyPost Try.prog Try.f23 (YP W0 o t l) Exit.ret _ _
    have g2 : gd ≠ b2 := g.n2.2.2.2.2.2.2.2.2
    have g3 : gd ≠ b3 := fun e => g.ng.2.2.2.2.2.2 e.symm
    refine bodyPost_ret (v := .tuple #[.slice A' n' c', .slice (some ⟨gd, 0, none⟩) l.length cd, .int .i64 0]) (res225 (b := b2) (b' := b3) Try.results23 y2 y3 y4 (x2.cell 0) (x3.cell 0)) (hd3.trans hd2) ⟨_, _, ns.map (fun n => ((n : Nat) : Int)), _, by rw [hE], ?_, row_list (e3.row (by rintro (e | e) <;> contradiction) hr2) (Nat.lt_of_lt_of_le hgd2 e3.size) cd hcd, ?_, hb2.trans (e3.below hb2.size (fun k hk hx => by rcases hx with e | e <;> omega))⟩
    · obtain ⟨A2, c2, e1, e2, e4⟩ := hri
      cases e1
      refine ⟨_, _, rfl, e2, fun k x hx => ?_⟩
      obtain ⟨b', off, e5, e6, e7⟩ := e4 k x hx
      have hne := hA' _ e5
      exact ⟨b', off, e5, Nat.lt_of_lt_of_le e6 e3.size, e3.cell (by rintro (e | e); exact hne.1 e; exact hne.2 e) e7⟩
    · unfold OrdRes
      rw [if_pos hE]
      exact ⟨ns, hy.ok, rfl, rfl⟩
  rcases hy.own.2 with ⟨hvn, hn0⟩ | ⟨gg, cap, cur, hvn, hbase, hgg, hcap, _⟩
  · have hns : ns = [] := List.eq_nil_of_length_eq_zero hn0
    subst hns
    subst hvn
    refine wpIn_seq (region_l 2 (wideF_plain _) (by kernel_rfl) (by kernel_rfl) ?_)
    intro K hK
    refine ListK.load (i := 0) (p := ⟨b2, 0, none⟩) (v := .slice none 0 0) rfl (by simp [u2]) (ld25 (hy.w2.cell 0)) ?_
    refine ListK.call (i := 1) (vs := #[.slice none 0 0]) rfl (enters_of Try.func58 (by kernel_rfl) rfl) (by simp [ev_same, hz_a1]) (((reverse_nil W1)).mono ?_)
    rintro _ _ ⟨rfl, rfl⟩
    refine ⟨_, rfl, ?_⟩
    refine ListK.done (hK _ _ ?_)
    clear hK K
    refine hgo W1 (RI.nil _) ⟨none, 0, 0, rfl, fun _ h => by cases h⟩ hB1 hy.w2 hy.og.c3 hy.row (Nat.lt_of_lt_of_le hgd hy.el.size) _ ?_ ?_ ?_ ?_
    · simp only [size_put, hz_a1]
    · simp only [defers_put, hd_a1]
    · exact (by simp [ev_ne, u2])
    · exact (by simp [ev_ne, u3])
  · subst hvn
    have hsame : ns.reverse.map (fun n => Value.int .i64 ((n : Nat) : Int)) = (ns.reverse.map fun n => ((n : Nat) : Int)).map (.int .i64 ·) := by simp
    have hown := hy.own
    rw [hsame] at hown
    have hrw := row_of_list hown (by simp)
    have hl4 := PathOk.len ns _ _ (pow_pos' _) hy.ok
    have hp8 := pow_le hl8
    have hggH : H ≤ gg := Nat.le_trans hHW hbase
    refine wpIn_seq (region_l 2 (wideF_plain _) (by kernel_rfl) (by kernel_rfl) ?_)
    intro K hK
    refine ListK.load (i := 0) (p := ⟨b2, 0, none⟩) (v := .slice (some ⟨gg, 0, none⟩) ns.length cap) rfl (by simp [u2]) (ld25 (hy.w2.cell 0)) ?_
    refine ListK.call (i := 1) (vs := #[.slice (some ⟨gg, 0, none⟩) ns.length cap]) rfl (enters_of Try.func58 (by kernel_rfl) rfl) (by simp [ev_same, hz_a1]) (((reverse_row gg ns.length cap _ W1 (by omega) hrw)).mono ?_)
    rintro _ W2 ⟨rfl, hr2, e2⟩
    refine ⟨_, rfl, ?_⟩
    refine ListK.done (hK _ _ ?_)
    clear hK K
    refine hgo W2 ?_ ⟨_, _, _, rfl, fun b' hb' => by cases hb'; exact ⟨by simp only []; omega, by simp only []; omega⟩⟩ (hB1.trans (e2.below hB1.size (fun k hk e => by have : k = gg := e; have := hB.size; omega))) (e2.whole (fun e => by have : b2 = gg := e; omega) hy.w2) (e2.whole (fun e => by have : b3 = gg := e; omega) hy.og.c3) (e2.row (fun e => by have : gd = gg := e; omega) hy.row) (Nat.lt_of_lt_of_le hgd (Nat.le_trans hy.el.size e2.size)) _ ?_ ?_ ?_ ?_
    · have := row_list hr2 (Nat.lt_of_lt_of_le (Array.getElem?_eq_some_iff.1 hgg).1 e2.size) cap hcap
      rw [rev_list] at this
      exact this
    · simp only [size_put, hz_a1]
    · simp only [defers_put, hd_a1]
    · exact (by simp [ev_ne, u2])
    · exact (by simp [ev_ne, u3])
end
end Go.Proofs.Ytfcnombmphophaa

/-! Wn8: Order, its contract. -/
namespace Go.Proofs.Ytfcnombmphophaa
open Go.RowKit Go.Shelf
section
variable {P : Program} {ops : Array Oper} {K : Act → World → Prop} {k i d : Nat} {a : Act} {w w' : World} {ty : TypeId} {pos : String} {aft : Array Edge} {v : Value} {gd : Option (Nat × Bool)}
theorem ListK.mkS {t : TypeId} {x y : Operand} {u u' : Value} (hi : ops[i]? = some ⟨some d, .makeSlice t x y, ty, pos, aft, gd⟩) (hx : a.eval x = u) (hy : a.eval y = u') (hv : (Instr.makeSlice t u u').run P w = .ok v w')
    (h : ListK P ops K k (i + 1) (a.put (some d) v) w') (hw : Region.wanted ⟨some d, .makeSlice t x y, ty, pos, aft, gd⟩ (yielded ops a.tmps) = true := by rfl) : ListK P ops K (k + 1) i a w := ListK.valW hi hw (by simp [execOp, hx, hy, hv]) h
theorem ListK.mkM {t : TypeId} (hi : ops[i]? = some ⟨some d, .makeMap t none, ty, pos, aft, gd⟩) (hv : (Instr.makeMap t none).run P w = .ok v w')
    (h : ListK P ops K k (i + 1) (a.put (some d) v) w') (hw : Region.wanted ⟨some d, .makeMap t none, ty, pos, aft, gd⟩ (yielded ops a.tmps) = true := by rfl) : ListK P ops K (k + 1) i a w := ListK.valW hi hw (by simp [execOp, hv]) h
theorem ListK.mkF {f : Fn} {cs : Array Operand} {vs : Array Value} (hi : ops[i]? = some ⟨some d, .makeFunc f #[] cs, ty, pos, aft, gd⟩) (hc : cs.map a.eval = vs)
    (h : ListK P ops K k (i + 1) (a.put (some d) (.func f #[] vs)) w) (hw : Region.wanted ⟨some d, .makeFunc f #[] cs, ty, pos, aft, gd⟩ (yielded ops a.tmps) = true := by rfl) : ListK P ops K (k + 1) i a w :=
  ListK.valW hi hw (by
    have : (Instr.makeFunc f #[] vs).run P w = .ok (.func f #[] vs) w := rfl
    simp [execOp, hc, this]) h
end
theorem whole_one {W : World} {g : Nat} {t : TypeId} {v u : Value} {k i : Nat} (h : Whole W g t #[v]) (hc : W.cell? ⟨k, i, none⟩ = some u) (hne : i ≠ 0 ∨ u ≠ v) : k ≠ g := by
  rintro rfl
  have h1 := h.cell i
  rw [hc] at h1
  rcases hne with hne | hne
  · cases i with
    | zero => exact hne rfl
    | succ i => simp at h1
  · cases i with
    | zero => simp at h1; exact hne h1
    | succ i => simp at h1
theorem BookAt.rebase {W : World} {B B' kb ge gl ce cl : Nat} {o t : Int} {A : Option Addr} {l : List Sale} {c : Nat} (b : BookAt W B kb ge gl ce cl o t A l c) (hs : SalesAt W B' A l) (hB : B' ≤ W.heap.size) : BookAt W B' kb ge gl ce cl o t A l c :=
  ⟨⟨b.ba.c0, b.ba.c1, b.ba.c2, hs⟩, b.c3, b.c4, b.e, b.f, hB⟩

set_option maxRecDepth 10000 in
set_option maxHeartbeats 4000000 in
theorem order_any (o t : Int) (A : Option Addr) (l : List Sale) (c : Nat) (W : World) (hl : l.length ≤ 1000000) (hs : SalesAt W W.heap.size A l) :
    Calls Try.prog 23 #[.agg #[.int .i64 o, .int .i64 t, .slice A l.length c]] W (YP W o t l) := by
  refine (callsIn_wide (n := 5)).1 (callsIn_of_wp Try.func23 body23 trivial ?_ rfl)
  obtain ⟨a, ha⟩ : ∃ a : Act, a = { tmps := #[.agg #[.int .i64 o, .int .i64 t, .slice A l.length c]] ++ Array.replicate (Try.f23.ntmps - (#[.agg #[.int .i64 o, .int .i64 t, .slice A l.length c]] : Array Value).size) undef, defers := [] } := ⟨_, rfl⟩
  have hsz : a.tmps.size = 29 := by rw [ha]; simp [Try.ntmps23]
  have t0 : a.eval (.tmp 0) = .agg #[.int .i64 o, .int .i64 t, .slice A l.length c] := by rw [ha]; simp [Act.eval]
  have hdf : a.defers = [] := by rw [ha]
  rw [← ha]
  clear ha
  unfold code23
  refine wpIn_seq (region_l 4 (wideF_plain _) (by kernel_rfl) (by kernel_rfl) ?_)
  intro K hK
  refine ListK.box (i := 0) (u := .agg #[.int .i64 o, .int .i64 t, .slice A l.length c]) rfl (by simp [t0]) (bx31 W _ _ _ _ _) ?_
  refine ListK.alloc (i := 1) rfl (al25 _) ?_
  refine ListK.alloc (i := 2) rfl (al25 _) ?_
  refine ListK.assign (i := 3) (v := .int .i64 0) rfl (by simp [ev_const]) ?_
  refine ListK.done (hK _ _ ?_)
  clear hK K
  have hB1 : Below W.heap.size W (((W.alloc (.cells #[.int .i64 o, .int .i64 t, .slice A l.length c] 31)).alloc (.cells #[.slice none 0 0] 25)).alloc (.cells #[.slice none 0 0] 25)) := (((Below.refl _ W).alloc (Nat.le_refl _) _).alloc (by simp) _).alloc (by simp; omega) _
  have wb := ((Whole.new W 31 #[.int .i64 o, .int .i64 t, .slice A l.length c]).alloc (.cells #[.slice none 0 0] 25)).alloc (.cells #[.slice none 0 0] 25)
  have w2 := (Whole.new (W.alloc (.cells #[.int .i64 o, .int .i64 t, .slice A l.length c] 31)) 25 #[.slice none 0 0]).alloc (.cells #[.slice none 0 0] 25)
  have w3 := Whole.new ((W.alloc (.cells #[.int .i64 o, .int .i64 t, .slice A l.length c] 31)).alloc (.cells #[.slice none 0 0] 25)) 25 #[.slice none 0 0]
  have hS1 : (((W.alloc (.cells #[.int .i64 o, .int .i64 t, .slice A l.length c] 31)).alloc (.cells #[.slice none 0 0] 25)).alloc (.cells #[.slice none 0 0] 25)).heap.size = W.heap.size + 3 := by simp
  simp only [World.size_alloc] at w2 w3
  generalize ((W.alloc (.cells #[.int .i64 o, .int .i64 t, .slice A l.length c] 31)).alloc (.cells #[.slice none 0 0] 25)).alloc (.cells #[.slice none 0 0] 25) = W1 at *
  simp only [World.size_alloc]
  obtain ⟨h, hh⟩ : ∃ h, h = W.heap.size := ⟨_, rfl⟩
  rw [← hh] at hs hB1 wb w2 w3 hS1 ⊢
  have hs1 : SalesAt W1 W1.heap.size A l := (hs.below hB1 (Nat.le_refl _)).more (by omega)
  generalize hA : Act.put _ _ _ = a1
  have hz_a1 : a1.tmps.size = 29 := by rw [← hA]; simp only [size_put, hsz]
  have u1 : a1.eval (.tmp 1) = .pointer (some ⟨h, 0, none⟩) := by rw [← hA]; exact (by simp [ev_same, ev_ne, hsz])
  have u2 : a1.eval (.tmp 2) = .pointer (some ⟨(h + 1), 0, none⟩) := by rw [← hA]; exact (by simp [ev_same, ev_ne, size_put, hsz])
  have u3 : a1.eval (.tmp 3) = .pointer (some ⟨(h + 2), 0, none⟩) := by rw [← hA]; exact (by simp [ev_same, ev_ne, size_put, hsz])
  have u4 : a1.eval (.tmp 4) = .int .i64 0 := by rw [← hA]; exact (by simp [ev_same, size_put, hsz])
  have hd_a1 : a1.defers = [] := by rw [← hA]; simp only [defers_put, hdf]
  clear hA
  by_cases hE : triedE o t l true = 0
  · obtain ⟨h0, -, hf⟩ := triedE_zero hE
    have hv := valid_of_fault h0
    have hl8 := hv.len
    refine wpIn_seq (region_l 8 (wideF_plain _) (by kernel_rfl) (by kernel_rfl) ?_)
    intro K hK
    refine ListK.load (i := 0) (p := ⟨h, 0, none⟩) (v := .agg #[.int .i64 o, .int .i64 t, .slice A l.length c]) rfl (by simp [u1]) (ld31' ⟨wb.cell 0, wb.cell 1, wb.cell 2⟩) ?_
    refine ListK.call (i := 1) (vs := #[.agg #[.int .i64 o, .int .i64 t, .slice A l.length c], .bool true]) rfl (enters_of Try.func53 (by kernel_rfl) rfl) (by simp [ev_same, ev_const, hz_a1]) (((tried_ok o t A l c W1 hs1 h0 hf)).mono ?_)
    rintro _ W2 ⟨B0, kb, ge, gl, ce, cl, rfl, hbk, hb2⟩
    refine ⟨_, rfl, ?_⟩
    refine ListK.move (i := 2) (v := .tuple #[.pointer (some ⟨kb, 0, none⟩), .int .i64 0]) rfl (by simp [ev_same, size_put, hz_a1]) ?_
    refine ListK.extract (i := 3) (u := .tuple #[.pointer (some ⟨kb, 0, none⟩), .int .i64 0]) (v := .pointer (some ⟨kb, 0, none⟩)) rfl (by simp [ev_same, size_put, hz_a1]) (ex0 _ _ _) ?_
    refine ListK.extract (i := 4) (u := .tuple #[.pointer (some ⟨kb, 0, none⟩), .int .i64 0]) (v := .int .i64 0) rfl (by simp [ev_same, ev_ne, size_put, hz_a1]) (ex1 _ _ _) ?_
    refine ListK.alloc (i := 5) rfl (al89 W2) ?_
    refine ListK.store (i := 6) (u := .pointer (some ⟨W2.heap.size, 0, none⟩)) (u' := .pointer (some ⟨kb, 0, none⟩)) rfl (by simp [ev_same, size_put, hz_a1]) (by simp [ev_same, ev_ne, size_put, hz_a1]) (sa89 W2 _) ?_
    refine ListK.assign (i := 7) (v := .int .i64 0) rfl (by simp [ev_same, ev_ne, size_put, hz_a1]) ?_
    refine ListK.done (hK _ _ ?_)
    clear hK K
    have hbl := hbk.lt
    have wb2 := wb.below hb2 wb.lt
    have w22 := w2.below hb2 w2.lt
    have w32 := w3.below hb2 w3.lt
    have hB2 : Below h W W2 := hB1.trans (hb2.mono (by omega))
    have hS2 := hb2.size
    have hs2 := hs.below hB2 (Nat.le_refl _)
    have hbk2 := hbk.rebase hs2 (by omega)
    have k2 := whole_one w22 hbk2.c3 (.inl (by omega))
    have k3 := whole_one w32 hbk2.c3 (.inl (by omega))
    have hp := pow_pos' l.length
    have e2 := whole_one w22 (hbk2.e 0 (by omega)) (.inr (by simp))
    have e3 := whole_one w32 (hbk2.e 0 (by omega)) (.inr (by simp))
    have f2 := whole_one w22 (hbk2.f 0 (by omega)) (.inr (by simp))
    have f3 := whole_one w32 (hbk2.f 0 (by omega)) (.inr (by simp))
    have ltE := block_lt_of_cell (hbk2.e 0 (by omega))
    have ltF := block_lt_of_cell (hbk2.f 0 (by omega))
    simp only [] at ltE ltF
    have hb3 : Below W2.heap.size W2 (W2.alloc (.cells #[.pointer (some ⟨kb, 0, none⟩)] 89)) := (Below.refl _ _).alloc (Nat.le_refl _) _
    have hbk3 := hbk2.keep hb3
    have wb3 := wb2.below hb3 wb2.lt
    have w23 := w22.below hb3 w22.lt
    have w33 := w32.below hb3 w32.lt
    have hB3 : Below h W (W2.alloc (.cells #[.pointer (some ⟨kb, 0, none⟩)] 89)) := hB2.trans (hb3.mono (by omega))
    have c53 := Whole.new W2 89 #[.pointer (some ⟨kb, 0, none⟩)]
    have hS3 : (W2.alloc (.cells #[.pointer (some ⟨kb, 0, none⟩)] 89)).heap.size = W2.heap.size + 1 := by simp
    generalize hb5 : W2.heap.size = b5 at *
    generalize W2.alloc (.cells #[.pointer (some ⟨kb, 0, none⟩)] 89) = W3 at *
    clear hbk hbk2 wb2 w22 w32 hB2 hs2 hb3
    generalize hA : Act.put _ _ _ = a2
    have hz_a2 : a2.tmps.size = 29 := by rw [← hA]; simp only [size_put, hz_a1]
    have v1 : a2.eval (.tmp 1) = .pointer (some ⟨h, 0, none⟩) := by rw [← hA]; exact (by simp [ev_ne, u1])
    have v2 : a2.eval (.tmp 2) = .pointer (some ⟨(h + 1), 0, none⟩) := by rw [← hA]; exact (by simp [ev_ne, u2])
    have v3 : a2.eval (.tmp 3) = .pointer (some ⟨(h + 2), 0, none⟩) := by rw [← hA]; exact (by simp [ev_ne, u3])
    have v4 : a2.eval (.tmp 4) = .int .i64 0 := by rw [← hA]; exact (by simp [ev_same, size_put, hz_a1])
    have v5 : a2.eval (.tmp 5) = .pointer (some ⟨b5, 0, none⟩) := by rw [← hA]; exact (by simp [ev_same, ev_ne, size_put, hz_a1])
    have hd_a2 : a2.defers = [] := by rw [← hA]; simp only [defers_put, hd_a1]
    clear hA
    refine wpIn_seq (wpIn_seq (region_l 2 (wideF_plain _) (by kernel_rfl) (by kernel_rfl) ?_))
    intro K hK
    refine ListK.move (i := 0) (v := .int .i64 0) rfl (by simp [v4]) ?_
    refine ListK.bin (i := 1) (u := .int .i64 0) (u' := .int .i64 0) (v := .bool false) rfl (by simp [ev_same, hz_a2]) (by simp [ev_const]) (neq27F rfl _) ?_
    refine ListK.done (hK _ _ ?_)
    clear hK K
    refine wpIn_cond (t := false) (by simp [ev_same, size_put, hz_a2]) (wpIn_skip ?_)
    show midY.wpIn _ _ _ _ _ _
    unfold midY
    generalize hA : Act.put _ _ _ = a3
    have hz_a3 : a3.tmps.size = 29 := by rw [← hA]; simp only [size_put, hz_a2]
    have w1 : a3.eval (.tmp 1) = .pointer (some ⟨h, 0, none⟩) := by rw [← hA]; exact (by simp [ev_ne, v1])
    have w2 : a3.eval (.tmp 2) = .pointer (some ⟨(h + 1), 0, none⟩) := by rw [← hA]; exact (by simp [ev_ne, v2])
    have w3 : a3.eval (.tmp 3) = .pointer (some ⟨(h + 2), 0, none⟩) := by rw [← hA]; exact (by simp [ev_ne, v3])
    have w5 : a3.eval (.tmp 5) = .pointer (some ⟨b5, 0, none⟩) := by rw [← hA]; exact (by simp [ev_ne, v5])
    have hd_a3 : a3.defers = [] := by rw [← hA]; simp only [defers_put, hd_a2]
    clear hA
    have hc2 := wb3.cell 2
    have w34 := w33.alloc (.cells (Array.replicate l.length (.int .i64 0)) 3)
    refine wpIn_seq (region_l 5 (wideF_plain _) (by kernel_rfl) (by kernel_rfl) ?_)
    intro K hK
    refine ListK.field (i := 0) (u := .pointer (some ⟨h, 0, none⟩)) (v := .pointer (some ⟨h, 2, none⟩)) rfl (by simp [w1]) (fa31_2 _) ?_
    refine ListK.load (i := 1) (p := ⟨h, 2, none⟩) (v := .slice A l.length c) rfl (by simp [ev_same, hz_a3]) (ld29 (hc2)) ?_
    refine ListK.len (i := 2) (u := .slice A l.length c) (v := .int .i64 l.length) rfl (by simp [ev_same, size_put, hz_a3]) (ln29 _ _ _ _ _) rfl ?_
    refine ListK.mkS (i := 3) (u := .int .i64 l.length) (u' := .int .i64 l.length) rfl (by simp [ev_same, size_put, hz_a3]) (by simp [ev_same, size_put, hz_a3]) (mk25 hl8 W3) ?_
    refine ListK.store (i := 4) (u := .pointer (some ⟨(h + 2), 0, none⟩)) (u' := .slice (some ⟨W3.heap.size, 0, none⟩) l.length l.length) rfl (by simp [ev_ne, w3]) (by simp [ev_same, size_put, hz_a3]) (st25 (w34.cell 0) (w34.frozen 0)) ?_
    refine ListK.done (hK _ _ ?_)
    clear hK K
    have wrow := Whole.new W3 3 (Array.replicate l.length (.int .i64 0))
    have hrow : Row (W3.alloc (.cells (Array.replicate l.length (.int .i64 0)) 3)) W3.heap.size l.length (fun _ => 0) := fun d hd => ⟨(wrow.cell d).trans (by simp [hd]), wrow.frozen d⟩
    have hb4 : Below W3.heap.size W3 (W3.alloc (.cells (Array.replicate l.length (.int .i64 0)) 3)) := (Below.refl _ _).alloc (Nat.le_refl _) _
    have e4 : Else (fun k => k = h + 2) W3 ((W3.alloc (.cells (Array.replicate l.length (.int .i64 0)) 3)).setCell ⟨h + 2, 0, none⟩ (.slice (some ⟨W3.heap.size, 0, none⟩) l.length l.length)) := (Else.of_below (fun k => k = h + 2) hb4).setCell (p := ⟨h + 2, 0, none⟩) (.inl rfl) _
    have hbk4 := hbk3.else e4 (fun k hk e => by have : k = h + 2 := e; omega) (fun e => k3 e) (fun e => e3 e) (fun e => f3 e)
    have w24 := e4.whole (fun e => by have : h + 1 = h + 2 := e; omega) w23
    have c54 := e4.whole (fun e => by have : b5 = h + 2 := e; omega) c53
    have w35 := w34.set 0 (.slice (some ⟨W3.heap.size, 0, none⟩) l.length l.length)
    have hrow4 := hrow.far (p := ⟨h + 2, 0, none⟩) (by simp; omega) (.slice (some ⟨W3.heap.size, 0, none⟩) l.length l.length)
    have hB4 : Below h W ((W3.alloc (.cells (Array.replicate l.length (.int .i64 0)) 3)).setCell ⟨h + 2, 0, none⟩ (.slice (some ⟨W3.heap.size, 0, none⟩) l.length l.length)) := hB3.trans (e4.below (by omega) (fun k hk e => by have : k = h + 2 := e; omega))
    have hS4 : ((W3.alloc (.cells (Array.replicate l.length (.int .i64 0)) 3)).setCell ⟨h + 2, 0, none⟩ (.slice (some ⟨W3.heap.size, 0, none⟩) l.length l.length)).heap.size = W3.heap.size + 1 := by simp [World.setCell]
    generalize hgd : W3.heap.size = gd at *
    generalize (W3.alloc (.cells (Array.replicate l.length (.int .i64 0)) 3)).setCell ⟨h + 2, 0, none⟩ (.slice (some ⟨gd, 0, none⟩) l.length l.length) = W4 at *
    clear wb3 w23 w33 w34 hB3 c53 hbk3 hc2 wrow hrow hb4 e4
    generalize hA : Act.put _ _ _ = a4
    have hz_a4 : a4.tmps.size = 29 := by rw [← hA]; simp only [size_put, hz_a3]
    have x1 : a4.eval (.tmp 1) = .pointer (some ⟨h, 0, none⟩) := by rw [← hA]; exact (by simp [ev_ne, w1])
    have x2 : a4.eval (.tmp 2) = .pointer (some ⟨(h + 1), 0, none⟩) := by rw [← hA]; exact (by simp [ev_ne, w2])
    have x3 : a4.eval (.tmp 3) = .pointer (some ⟨(h + 2), 0, none⟩) := by rw [← hA]; exact (by simp [ev_ne, w3])
    have x5 : a4.eval (.tmp 5) = .pointer (some ⟨b5, 0, none⟩) := by rw [← hA]; exact (by simp [ev_ne, w5])
    have hd_a4 : a4.defers = [] := by rw [← hA]; simp only [defers_put, hd_a3]
    clear hA
    have m6 := ((Whole.new (W4.alloc (.map #[] 0)) 92 #[.map none]))
    simp only [World.size_alloc] at m6
    refine wpIn_seq (region_l 3 (wideF_plain _) (by kernel_rfl) (by kernel_rfl) ?_)
    intro K hK
    refine ListK.mkM (i := 0) rfl (mm92 W4) ?_
    refine ListK.alloc (i := 1) rfl (al92 _) ?_
    refine ListK.store (i := 2) (u := .pointer (some ⟨(W4.heap.size + 1), 0, none⟩)) (u' := .map (some W4.heap.size)) rfl (by simp [ev_same, size_put, hz_a4]) (by simp [ev_same, ev_ne, hz_a4]) (st92v (m6.cell 0) (m6.frozen 0)) ?_
    refine ListK.done (hK _ _ ?_)
    clear hK K
    have hmap : (W4.alloc (.map #[] 0)).heap[W4.heap.size]? = some (.map #[] 0) := heap_alloc_new W4 _
    have hb5' : Below W4.heap.size W4 (((W4.alloc (.map #[] 0)).alloc (.cells #[.map none] 92)).setCell ⟨W4.heap.size + 1, 0, none⟩ (.map (some W4.heap.size))) := (((Below.refl _ W4).alloc (Nat.le_refl _) _).alloc (by simp) _).setCell (p := ⟨W4.heap.size + 1, 0, none⟩) (by simp) _
    have c65 := m6.set 0 (.map (some W4.heap.size))
    have gn5 : GoneAt (((W4.alloc (.map #[] 0)).alloc (.cells #[.map none] 92)).setCell ⟨W4.heap.size + 1, 0, none⟩ (.map (some W4.heap.size))) W4.heap.size (NoWay t l) :=
      ⟨#[], 0, (Below.heap_setCell _ _ _ _ (by simp)).trans ((Below.heap_alloc _ _ _ (by simp)).trans hmap), fun e he => by simp at he⟩
    have hbk5 := hbk4.keep hb5'
    have w25 := w24.below hb5' w24.lt
    have w36 := w35.below hb5' w35.lt
    have c55 := c54.below hb5' c54.lt
    have hrow5 := hrow4.below hb5'
    have hB5 := hB4.trans (hb5'.mono (by omega))
    have hS5 : (((W4.alloc (.map #[] 0)).alloc (.cells #[.map none] 92)).setCell ⟨W4.heap.size + 1, 0, none⟩ (.map (some W4.heap.size))).heap.size = W4.heap.size + 2 := by simp [World.setCell]
    generalize hM : W4.heap.size = M at *
    generalize ((W4.alloc (.map #[] 0)).alloc (.cells #[.map none] 92)).setCell ⟨M + 1, 0, none⟩ (.map (some M)) = W5 at *
    clear hbk4 w24 w35 c54 hrow4 hB4 hb5' m6 hmap
    generalize hA : Act.put _ _ _ = a5
    have hz_a5 : a5.tmps.size = 29 := by rw [← hA]; simp only [size_put, hz_a4]
    have y1 : a5.eval (.tmp 1) = .pointer (some ⟨h, 0, none⟩) := by rw [← hA]; exact (by simp [ev_ne, x1])
    have y2 : a5.eval (.tmp 2) = .pointer (some ⟨(h + 1), 0, none⟩) := by rw [← hA]; exact (by simp [ev_ne, x2])
    have y3 : a5.eval (.tmp 3) = .pointer (some ⟨(h + 2), 0, none⟩) := by rw [← hA]; exact (by simp [ev_ne, x3])
    have y5 : a5.eval (.tmp 5) = .pointer (some ⟨b5, 0, none⟩) := by rw [← hA]; exact (by simp [ev_ne, x5])
    have y6 : a5.eval (.tmp 6) = .pointer (some ⟨(M + 1), 0, none⟩) := by rw [← hA]; exact (by simp [ev_same, size_put, hz_a4])
    have hd_a5 : a5.defers = [] := by rw [← hA]; simp only [defers_put, hd_a4]
    clear hA
    have m7 := Whole.new W5 93 #[.nilFunc]
    refine wpIn_seq (region_l 1 (wideF_plain _) (by kernel_rfl) (by kernel_rfl) ?_)
    intro K hK
    refine ListK.alloc (i := 0) rfl (al93 _) ?_
    refine ListK.done (hK _ _ ?_)
    clear hK K
    refine wpIn_seq (region_l 2 (wideF_plain _) (by kernel_rfl) (by kernel_rfl) ?_)
    intro K hK
    refine ListK.mkF (i := 0) (vs := capsZ (h + 1) (h + 2) b5 (M + 1) W5.heap.size) rfl (by simp [ev_same, ev_ne, hz_a5, y2, y3, y5, y6]) ?_
    refine ListK.store (i := 1) (u := .pointer (some ⟨W5.heap.size, 0, none⟩)) (u' := .func (.func 54) #[] (capsZ (h + 1) (h + 2) b5 (M + 1) W5.heap.size)) rfl (by simp [ev_same, ev_ne, hz_a5]) (by simp [ev_same, size_put, hz_a5]) (st93v (m7.cell 0) (m7.frozen 0)) ?_
    refine ListK.done (hK _ _ ?_)
    clear hK K
    have hb6 : Below W5.heap.size W5 ((W5.alloc (.cells #[.nilFunc] 93)).setCell ⟨W5.heap.size, 0, none⟩ (.func (.func 54) #[] (capsZ (h + 1) (h + 2) b5 (M + 1) W5.heap.size))) := ((Below.refl _ W5).alloc (Nat.le_refl _) _).setCell (p := ⟨W5.heap.size, 0, none⟩) (by simp) _
    have c76 := m7.set 0 (.func (.func 54) #[] (capsZ (h + 1) (h + 2) b5 (M + 1) W5.heap.size))
    have hbk6 := hbk5.keep hb6
    have w26 := w25.below hb6 w25.lt
    have w37 := w36.below hb6 w36.lt
    have c56 := c55.below hb6 c55.lt
    have c66 := c65.below hb6 c65.lt
    have hrow6 := hrow5.below hb6
    have hB6 := hB5.trans (hb6.mono (by omega))
    have gn6 := gn5.keep (hb6.block M (by omega))
    have hS6 : ((W5.alloc (.cells #[.nilFunc] 93)).setCell ⟨W5.heap.size, 0, none⟩ (.func (.func 54) #[] (capsZ (h + 1) (h + 2) b5 (M + 1) W5.heap.size))).heap.size = W5.heap.size + 1 := by simp [World.setCell]
    generalize hb7 : W5.heap.size = b7 at *
    generalize (W5.alloc (.cells #[.nilFunc] 93)).setCell ⟨b7, 0, none⟩ (.func (.func 54) #[] (capsZ (h + 1) (h + 2) b5 (M + 1) b7)) = W6 at *
    generalize hA : Act.put _ _ _ = a6
    have hz_a6 : a6.tmps.size = 29 := by rw [← hA]; simp only [size_put, hz_a5]
    have z2 : a6.eval (.tmp 2) = .pointer (some ⟨(h + 1), 0, none⟩) := by rw [← hA]; exact (by simp [ev_ne, y2])
    have z3 : a6.eval (.tmp 3) = .pointer (some ⟨(h + 2), 0, none⟩) := by rw [← hA]; exact (by simp [ev_ne, y3])
    have z7 : a6.eval (.tmp 7) = .pointer (some ⟨b7, 0, none⟩) := by rw [← hA]; exact (by simp [ev_same, ev_ne, hz_a5])
    have hd_a6 : a6.defers = [] := by rw [← hA]; simp only [defers_put, hd_a5]
    clear hA
    refine tailY_wp (H := b7 + 1) (B := h) (b2 := h + 1) (b3 := h + 2) (b5 := b5) (b6 := M + 1) (b7 := b7) (M := M) (gd := gd) (cd := l.length) hv hE (fits_way hv hf) ⟨by omega, by omega, by omega, by omega, by omega⟩ ⟨hbk6, c56, c66, c76, w37, gn6, by omega⟩ hrow6 (by omega) (Nat.le_refl _) w26 (by rw [← hh]; exact hB6) (by omega) (by omega) (by omega) (by omega) hz_a6 hd_a6 z2 z3 z7
  · skip
    refine wpIn_seq (region_l 8 (wideF_plain _) (by kernel_rfl) (by kernel_rfl) ?_)
    intro K hK
    refine ListK.load (i := 0) (p := ⟨h, 0, none⟩) (v := .agg #[.int .i64 o, .int .i64 t, .slice A l.length c]) rfl (by simp [u1]) (ld31' ⟨wb.cell 0, wb.cell 1, wb.cell 2⟩) ?_
    refine ListK.call (i := 1) (vs := #[.agg #[.int .i64 o, .int .i64 t, .slice A l.length c], .bool true]) rfl (enters_of Try.func53 (by kernel_rfl) rfl) (by simp [ev_same, ev_const, hz_a1]) (((tried_err o t A l c true W1 hl hs1 hE)).mono ?_)
    rintro _ W2 ⟨rfl, hb2⟩
    refine ⟨_, rfl, ?_⟩
    refine ListK.move (i := 2) (v := .tuple #[.pointer none, .int .i64 (triedE o t l true)]) rfl (by simp [ev_same, size_put, hz_a1]) ?_
    refine ListK.extract (i := 3) (u := .tuple #[.pointer none, .int .i64 (triedE o t l true)]) (v := .pointer none) rfl (by simp [ev_same, size_put, hz_a1]) (ex0 _ _ _) ?_
    refine ListK.extract (i := 4) (u := .tuple #[.pointer none, .int .i64 (triedE o t l true)]) (v := .int .i64 (triedE o t l true)) rfl (by simp [ev_same, ev_ne, size_put, hz_a1]) (ex1 _ _ _) ?_
    refine ListK.alloc (i := 5) rfl (al89 W2) ?_
    refine ListK.store (i := 6) (u := .pointer (some ⟨W2.heap.size, 0, none⟩)) (u' := .pointer none) rfl (by simp [ev_same, size_put, hz_a1]) (by simp [ev_same, ev_ne, size_put, hz_a1]) (sa89 W2 _) ?_
    refine ListK.assign (i := 7) (v := .int .i64 (triedE o t l true)) rfl (by simp [ev_same, ev_ne, size_put, hz_a1]) ?_
    refine ListK.done (hK _ _ ?_)
    clear hK K
    have hb3 : Below W1.heap.size W1 (W2.alloc (.cells #[.pointer none] 89)) := hb2.alloc hb2.size _
    have w23 := w2.below hb3 w2.lt
    have w33 := w3.below hb3 w3.lt
    have hB3 : Below h W (W2.alloc (.cells #[.pointer none] 89)) := hB1.trans (hb3.mono (by omega))
    generalize W2.alloc (.cells #[.pointer none] 89) = W3 at *
    generalize hA : Act.put _ _ _ = a2
    have hz_a2 : a2.tmps.size = 29 := by rw [← hA]; simp only [size_put, hz_a1]
    have v2 : a2.eval (.tmp 2) = .pointer (some ⟨(h + 1), 0, none⟩) := by rw [← hA]; exact (by simp [ev_ne, u2])
    have v3 : a2.eval (.tmp 3) = .pointer (some ⟨(h + 2), 0, none⟩) := by rw [← hA]; exact (by simp [ev_ne, u3])
    have v4 : a2.eval (.tmp 4) = .int .i64 (triedE o t l true) := by rw [← hA]; exact (by simp [ev_same, size_put, hz_a1])
    have hd_a2 : a2.defers = [] := by rw [← hA]; simp only [defers_put, hd_a1]
    clear hA
    refine wpIn_seq (wpIn_seq (region_l 2 (wideF_plain _) (by kernel_rfl) (by kernel_rfl) ?_))
    intro K hK
    refine ListK.move (i := 0) (v := .int .i64 (triedE o t l true)) rfl (by simp [v4]) ?_
    refine ListK.bin (i := 1) (u := .int .i64 (triedE o t l true)) (u' := .int .i64 0) (v := .bool true) rfl (by simp [ev_same, hz_a2]) (by simp [ev_const]) (neq27T hE _) ?_
    refine ListK.done (hK _ _ ?_)
    clear hK K
    refine wpIn_cond (t := true) (by simp [ev_same, size_put, hz_a2]) ?_
    have w24 := w23.set 0 (.slice none 0 0)
    have w34 := w33.far (p := ⟨h + 1, 0, none⟩) (by simp) (.slice none 0 0)
    refine wpIn_seq (region_l 4 (wideF_plain _) (by kernel_rfl) (by kernel_rfl) ?_)
    intro K hK
    refine ListK.move (i := 0) (v := .int .i64 (triedE o t l true)) rfl (by simp [ev_ne, v4]) ?_
    refine ListK.store (i := 1) (u := .pointer (some ⟨(h + 1), 0, none⟩)) (u' := .slice none 0 0) rfl (by simp [ev_ne, v2]) (by simp [ev_const]) (st25 (w23.cell 0) (w23.frozen 0)) ?_
    refine ListK.store (i := 2) (u := .pointer (some ⟨(h + 2), 0, none⟩)) (u' := .slice none 0 0) rfl (by simp [ev_ne, v3]) (by simp [ev_const]) (st25 (w34.cell 0) (w34.frozen 0)) ?_
    refine ListK.assign (i := 3) (v := .int .i64 (triedE o t l true)) rfl (by simp [ev_same, size_put, hz_a2]) ?_
    refine ListK.done (hK _ _ (wpIn_ret ?_))
    have w25 := w24.far (p := ⟨h + 2, 0, none⟩) (by simp) (.slice none 0 0)
    have w35 := w34.set 0 (.slice none 0 0)
    have hB4 : Below h W ((W3.setCell ⟨h + 1, 0, none⟩ (.slice none 0 0)).setCell ⟨h + 2, 0, none⟩ (.slice none 0 0)) := (hB3.setCell (p := ⟨h + 1, 0, none⟩) (by simp) _).setCell (p := ⟨h + 2, 0, none⟩) (by simp) _
    show bodyPost Try.prog Try.f23 (YP W o t l) Exit.ret _ _
    refine bodyPost_ret (v := .tuple #[.slice none 0 0, .slice none 0 0, .int .i64 (triedE o t l true)]) (res225 (b := h + 1) (b' := h + 2) Try.results23 (by simp [ev_ne, v2]) (by simp [ev_ne, v3]) (by simp [ev_same, size_put, hz_a2]) (w25.cell 0) (w35.cell 0)) (by simp only [defers_put, hd_a2]) ⟨_, _, [], [], rfl, RI.nil _, RI.nil _, ?_, by rw [← hh]; exact hB4⟩
    unfold OrdRes
    rw [if_neg hE]
    exact ⟨rfl, rfl⟩
end Go.Proofs.Ytfcnombmphophaa

/-! Qa: The law's small makers: between, sold, four. -/
namespace Go.Proofs.Ytfcnombmphophaa
open Go.RowKit Go.Shelf
set_option maxHeartbeats 400000 in
theorem between_any (x y : Int) (w : World) : Calls Try.prog 36 #[.int .i64 x, .int .i64 y] w fun e w' => e = .returned (.agg #[.int .i64 x, .int .i64 y]) ∧ Below w.heap.size w w' := by
  go_enter Try.func36, Try.ntmps36
  go_wp2
  exact bodyPost_ret (v := .agg #[.int .i64 x, .int .i64 y]) (by simp [results, Try.results36, go_sem]) rfl ⟨rfl, ((Below.refl _ _).alloc (Nat.le_refl _) _)⟩
theorem res61 {fn : Func} {k b : Nat} {W : World} {tm : Array Value} {s : Sale} (h : fn.results = #[.cell k 61]) (he : tm[k]?.getD undef = .pointer (some ⟨b, 0, none⟩)) (hc : Whole W b 61 (saleC s)) :
    (results fn tm).run Try.prog W = .ok (saleV s) W := by
  have l1 : (Instr.loadAt 61 (.pointer (some ⟨b, 0, none⟩))).run Try.prog W = .ok (saleV s) W := ld61 (hc.cell 0) (hc.cell 1) (hc.cell 2) (hc.cell 3) (hc.cell 4)
  have h0 := hc.cell 0
  have h1 := hc.cell 1
  have h2 := hc.cell 2
  have h3 := hc.cell 3
  have h4 := hc.cell 4
  simp only [results, h]
  simp [he]
  go_simp
set_option maxHeartbeats 400000 in
theorem mksale_any (a b m x y : Int) (w : World) : Calls Try.prog 37 #[.int .i64 a, .int .i64 b, .int .i64 m, .int .i64 x, .int .i64 y] w fun e w' => e = .returned (saleV ⟨a, b, m, x, y⟩) ∧ Below w.heap.size w w' := by
  go_enter Try.func37, Try.ntmps37
  go_wp2_with fail
  refine (between_any _ _ _).mono ?_
  rintro e w1 ⟨rfl, hb⟩
  have hz : w.heap.size < w1.heap.size := by have := hb.size; simp at this; omega
  have hc : ∀ i, w1.cell? ⟨w.heap.size, i, none⟩ = _ := fun i => hb.cell (p := ⟨w.heap.size, i, none⟩) (by simp)
  have hf : ∀ i, w1.frozen? ⟨w.heap.size, i, none⟩ = _ := fun i => hb.frozen (p := ⟨w.heap.size, i, none⟩) (by simp)
  have hw := (Whole.new w 61 #[.int .i64 0, .int .i64 0, .int .i64 0, .int .i64 0, .int .i64 0]).below hb (by simp)
  have HW := Lib.hid hw
  have Hb := Lib.hid hb
  clear hb hw
  go_wp2_with fail
  have h5 : Whole _ w.heap.size 61 (saleC ⟨a, b, m, x, y⟩) := ((((HW.out.set 0 (.int .i64 a)).set 1 (.int .i64 b)).set 2 (.int .i64 m)).set 3 (.int .i64 x)).set 4 (.int .i64 y)
  refine bodyPost_ret (v := saleV ⟨a, b, m, x, y⟩) (res61 Try.results37 rfl h5) rfl ⟨rfl, ?_⟩
  exact (((((((Below.refl _ _).alloc (Nat.le_refl _) _).trans (Hb.out.mono (by simp))).setCell (p := ⟨w.heap.size, 0, none⟩) (Nat.le_refl _) _).setCell (p := ⟨w.heap.size, 1, none⟩) (Nat.le_refl _) _).setCell (p := ⟨w.heap.size, 2, none⟩) (Nat.le_refl _) _).setCell (p := ⟨w.heap.size, 3, none⟩) (Nat.le_refl _) _).setCell (p := ⟨w.heap.size, 4, none⟩) (Nat.le_refl _) _

/-- The document's example. -/
def fourL : List Sale := [⟨0, 1, 6, 1, 3⟩, ⟨1, 2, 4, 2, 2⟩, ⟨0, 3, 4, 2, 5⟩, ⟨2, 3, 3, 4, 6⟩]
theorem bs29_4 (s0 s1 s2 s3 : Sale) (w : World) : (Instr.buildSlice 29 4 #[(0, saleV s0), (1, saleV s1), (2, saleV s2), (3, saleV s3)]).run Try.prog w = .ok (.slice (some ⟨w.heap.size, 0, none⟩) 4 4) (w.alloc (.cells (salesL [s0, s1, s2, s3]).toArray 61)) := by
  kernel_rfl
section
variable {ops : Array Oper} {K : Act → World → Prop} {k i d : Nat} {a : Act} {w : World} {ty : TypeId} {pos : String} {aft : Array Edge}
theorem ListK.app29 {s x : Operand} (hi : ops[i]? = some ⟨some d, .call { callee := .builtin .append, args := #[s, x], argTypes := #[29, 29] }, ty, pos, aft, none⟩)
    {base n : Nat} {v : Value} {xs : List Value} (hown : w.ownsRow base 61 5 v n xs) (hs : a.eval s = v) (ad : Addr) (m c : Nat) (news : List Value) (hx : a.eval x = .slice (some ad) m c) (hl : news.length = m * 5) (hm : 0 < m)
    (hnews : ∀ j u, news[j]? = some u → w.cell? (ad.add j) = some u) (h1 : ∀ u ∈ news, u.oneCell' = true) (h63 : n + m ≤ maxLen) (hbytes : (n + m) * 40 ≤ 140737488355328) (hbase : base ≤ w.heap.size)
    (h : ∀ g cap w', w'.ownsRow base 61 5 (.slice (some ⟨g, 0, none⟩) (n + m) cap) (n + m) (xs ++ news) → w.grownBy w' v.ownBlock → (v.ownBlock = some g ∨ g = w.heap.size) → ListK Try.prog ops K k (i + 1) (a.put (some d) (.slice (some ⟨g, 0, none⟩) (n + m) cap)) w') :
    ListK Try.prog ops K (k + 1) i a w := by
  obtain ⟨i0, hi0, hi1, hi2, hi3⟩ := info_parts Try.info61
  obtain ⟨g, cap, w', hr, h2, h3, h4, h5⟩ := run_append_lies (P := Try.prog) w 29 ty base 61 i0 _ 5 40 Try.underlying29 hi0 hi1 hi2 hi3 rfl (by omega) v n xs hown ad m c news (by simpa using hl) hnews h1 hm h63 hbytes hbase w.heap.size rfl
  refine ListK.val hi rfl ?_ (h g cap w' h2 h3 h4)
  simp [execOp, resolve, invoke, builtin, hs, hx, hr]
theorem ListK.app29nil {s x : Operand} (hi : ops[i]? = some ⟨some d, .call { callee := .builtin .append, args := #[s, x], argTypes := #[29, 29] }, ty, pos, aft, none⟩)
    {g n c c' : Nat} (hs : a.eval s = .slice (some ⟨g, 0, none⟩) n c) (hx : a.eval x = .slice none 0 c') (hnc : n ≤ c)
    (h : ListK Try.prog ops K k (i + 1) (a.put (some d) (.slice (some ⟨g, 0, none⟩) n c)) w) : ListK Try.prog ops K (k + 1) i a w := by
  obtain ⟨i0, hi0, hi1, hi2, hi3⟩ := info_parts Try.info61
  refine ListK.val hi rfl ?_ h
  have : (Builtin.append_ #[29, 29] ty #[.slice (some ⟨g, 0, none⟩) n c, .slice none 0 c']).run Try.prog w = .ok (.slice (some ⟨g, 0, none⟩) n c) w := by
    simp [Builtin.append_, run_underlying Try.underlying29, sizeOf, typeInfo, hi0, Builtin.lenOf, Builtin.firstCells, hnc, storeCells]
  simp [execOp, resolve, invoke, builtin, hs, hx, this]
end
theorem bd31c (A : Option Addr) (n c : Nat) (w : World) : (Instr.build 31 #[(0, .int .i64 4), (1, .int .i64 10), (2, .slice A n c)]).run Try.prog w = .ok (.agg #[.int .i64 4, .int .i64 10, .slice A n c]) w := by
  go_simp
noncomputable def opsQ0 : Array Oper := (Try.f35.body.bind (regionOf 0)).getD #[]
noncomputable def opsQ1 : Array Oper := (Try.f35.body.bind (regionOf 1)).getD #[]
noncomputable def code35 : Code := .seq (.region 0 opsQ0 false) (.seq (.region 1 opsQ1 false) .ret)
theorem body35 : Try.f35.body = some code35 := by kernel_rfl
/-- What four gives. -/
abbrev QP (W : World) (L : List Sale) : Ending → World → Prop := fun e w' => ∃ A c, e = .returned (.agg #[.int .i64 4, .int .i64 10, .slice A L.length c]) ∧ SalesAt w' w'.heap.size A L ∧ Below W.heap.size W w'
theorem sales_owned (W : World) (l : List Sale) (hl : l.length ≤ 1000) : (W.alloc (.cells (salesL l).toArray 61)).ownsRow W.heap.size 61 5 (.slice (some ⟨W.heap.size, 0, none⟩) l.length l.length) l.length (salesL l) := by
  have hlen : (salesL l).length = l.length * 5 := by
    have : ∀ l : List Sale, (salesL l).length = l.length * 5 := by
      intro l
      induction l with
      | nil => rfl
      | cons x l ih =>
        show (saleL x ++ salesL l).length = _
        rw [List.length_append, ih]
        simp [saleL]
        omega
    exact this l
  have := World.ownsRow_lit (base := W.heap.size) (e := 61) (size := 5) W (salesL l).toArray l.length (Nat.le_refl _) (by unfold maxLen; omega) (by simpa using hlen)
  simpa using this
theorem sales_one {l : List Sale} {u : Value} (h : u ∈ salesL l) : u.oneCell' = true := by
  obtain ⟨s, _, hs⟩ := List.mem_flatMap.1 h
  simp only [saleL, List.mem_cons, List.not_mem_nil, or_false] at hs
  rcases hs with rfl | rfl | rfl | rfl | rfl <;> rfl

theorem news_of {W : World} {b : Nat} {s : Sale} (h : Whole W b 61 (saleC s)) : ∀ j u, (saleL s)[j]? = some u → W.cell? ((⟨b, 0, none⟩ : Addr).add j) = some u := by
  intro j u hu
  have hc := h.cell j
  have h5 : j = 0 ∨ j = 1 ∨ j = 2 ∨ j = 3 ∨ j = 4 := by
    have := (List.getElem?_eq_some_iff.1 hu).1
    simp [saleL] at this
    omega
  rcases h5 with rfl | rfl | rfl | rfl | rfl <;> (simp [saleL] at hu; subst hu; simpa [Addr.add] using hc)
set_option maxRecDepth 10000 in
set_option maxHeartbeats 1000000 in
theorem four_gen (more : Value) (m : List Sale) (W : World) (hm : (m = [] ∧ more = .slice none 0 0) ∨ (∃ s b, m = [s] ∧ more = .slice (some ⟨b, 0, none⟩) 1 1 ∧ Whole W b 61 (saleC s))) :
    Calls Try.prog 35 #[more] W (QP W (fourL ++ m)) := by
  refine (callsIn_wide (n := 5)).1 (callsIn_of_wp Try.func35 body35 trivial ?_ rfl)
  obtain ⟨a, ha⟩ : ∃ a : Act, a = { tmps := #[more] ++ Array.replicate (Try.f35.ntmps - (#[more] : Array Value).size) undef, defers := [] } := ⟨_, rfl⟩
  have hsz : a.tmps.size = 11 := by rw [ha]; simp [Try.ntmps35]
  have t0 : a.eval (.tmp 0) = more := by rw [ha]; simp [Act.eval]
  have hdf : a.defers = [] := by rw [ha]
  rw [← ha]
  clear ha
  unfold code35
  refine wpIn_seq (region_l 1 (wideF_plain _) (by kernel_rfl) (by kernel_rfl) ?_)
  intro K hK
  refine ListK.alloc (i := 0) rfl (al31 W) ?_
  refine ListK.done (hK _ _ ?_)
  clear hK K
  have wb := Whole.new W 31 #[.int .i64 0, .int .i64 0, .slice none 0 0]
  have hB1 : Below W.heap.size W (W.alloc (.cells #[.int .i64 0, .int .i64 0, .slice none 0 0] 31)) := (Below.refl _ W).alloc (Nat.le_refl _) _
  generalize hh : W.heap.size = h at *
  generalize W.alloc (.cells #[.int .i64 0, .int .i64 0, .slice none 0 0] 31) = W1 at *
  generalize hA : Act.put _ _ _ = a1
  have hz_a1 : a1.tmps.size = 11 := by rw [← hA]; simp only [size_put, hsz]
  have u0 : a1.eval (.tmp 0) = more := by rw [← hA]; exact (by simp [ev_ne, t0])
  have u2 : a1.eval (.tmp 2) = .pointer (some ⟨h, 0, none⟩) := by rw [← hA]; exact (by simp [ev_same, hsz])
  have hd_a1 : a1.defers = [] := by rw [← hA]; simp only [defers_put, hdf]
  clear hA
  have hS1 := wb.lt
  have hst : ∀ (A : Option Addr) (n c : Nat) (W6 : World), Whole W6 h 31 #[.int .i64 0, .int .i64 0, .slice none 0 0] → SalesAt W6 W6.heap.size A (fourL ++ m) → n = (fourL ++ m).length → Below h W W6 → ∀ a' : Act, a'.defers = [] → a'.eval (.tmp 2) = .pointer (some ⟨h, 0, none⟩) →
      bodyPost Try.prog Try.f35 (QP W (fourL ++ m)) .ret a' (((W6.setCell ⟨h, 0, none⟩ (.int .i64 4)).setCell ⟨h, 1, none⟩ (.int .i64 10)).setCell ⟨h, 2, none⟩ (.slice A n c)) := by
    intro A n c W6 h6 hs hn hb a' hd' h2
    have h7 := ((h6.set 0 (.int .i64 4)).set 1 (.int .i64 10)).set 2 (.slice A n c)
    have e7 : Else (fun k => k = h) W6 (((W6.setCell ⟨h, 0, none⟩ (.int .i64 4)).setCell ⟨h, 1, none⟩ (.int .i64 10)).setCell ⟨h, 2, none⟩ (.slice A n c)) :=
      (((Else.refl (fun k => k = h) W6).setCell (p := ⟨h, 0, none⟩) (.inl rfl) _).setCell (p := ⟨h, 1, none⟩) (.inl rfl) _).setCell (p := ⟨h, 2, none⟩) (.inl rfl) _
    refine bodyPost_ret (v := .agg #[.int .i64 4, .int .i64 10, .slice A n c]) (res31 Try.results35 h2 (h7.cell 0) (h7.cell 1) (h7.cell 2)) hd' ⟨A, c, by rw [hn], ?_, by rw [hh]; exact hb.trans (e7.below (by have := hb.size; omega) (fun k hk e => by have : k = h := e; omega))⟩
    intro k s hks
    obtain ⟨b, off, e1, e2, e3⟩ := hs k s hks
    have hbh : b ≠ h := by
      intro e
      subst e
      have := h6.cell (off + k * 5 + 3)
      obtain ⟨_, _, _, q, _⟩ := e3
      rw [q] at this
      simp at this
    exact ⟨b, off, e1, Nat.lt_of_lt_of_le e2 e7.size, e3.keep (fun o => World.cell?_of_block (e7.block b e2 hbh))⟩
  rcases hm with ⟨rfl, rfl⟩ | ⟨s, bm, rfl, rfl, hwm⟩
  · skip
    have hmk : ∀ W5 : World, Below W1.heap.size W1 W5 → Whole (W5.alloc (.cells (salesL fourL).toArray 61)) h 31 #[.int .i64 0, .int .i64 0, .slice none 0 0] ∧ SalesAt (W5.alloc (.cells (salesL fourL).toArray 61)) (W5.alloc (.cells (salesL fourL).toArray 61)).heap.size (some ⟨W5.heap.size, 0, none⟩) (fourL ++ []) ∧ Below h W (W5.alloc (.cells (salesL fourL).toArray 61)) := by
      intro W5 hb5
      refine ⟨(wb.below hb5 wb.lt).alloc _, ?_, (hB1.trans (hb5.mono (by omega))).alloc (by have := hb5.size; omega) _⟩
      obtain ⟨A, c, e, hs⟩ := sales_of_owns (sales_owned W5 fourL (by decide))
      cases e
      simpa using hs
    refine wpIn_seq (region_l 9 (wideF_plain _) (by kernel_rfl) (by kernel_rfl) ?_)
    intro K hK
    refine ListK.call (i := 0) (vs := #[.int .i64 0, .int .i64 1, .int .i64 6, .int .i64 1, .int .i64 3]) rfl (enters_of Try.func37 (by kernel_rfl) rfl) (by simp [ev_const]) (((mksale_any _ _ _ _ _ _)).mono ?_)
    rintro _ W2 ⟨rfl, hb2⟩
    refine ⟨_, rfl, ?_⟩
    refine ListK.call (i := 1) (vs := #[.int .i64 1, .int .i64 2, .int .i64 4, .int .i64 2, .int .i64 2]) rfl (enters_of Try.func37 (by kernel_rfl) rfl) (by simp [ev_const]) (((mksale_any _ _ _ _ _ _)).mono ?_)
    rintro _ W3 ⟨rfl, hb3⟩
    refine ⟨_, rfl, ?_⟩
    refine ListK.call (i := 2) (vs := #[.int .i64 0, .int .i64 3, .int .i64 4, .int .i64 2, .int .i64 5]) rfl (enters_of Try.func37 (by kernel_rfl) rfl) (by simp [ev_const]) (((mksale_any _ _ _ _ _ _)).mono ?_)
    rintro _ W4 ⟨rfl, hb4⟩
    refine ⟨_, rfl, ?_⟩
    refine ListK.call (i := 3) (vs := #[.int .i64 2, .int .i64 3, .int .i64 3, .int .i64 4, .int .i64 6]) rfl (enters_of Try.func37 (by kernel_rfl) rfl) (by simp [ev_const]) (((mksale_any _ _ _ _ _ _)).mono ?_)
    rintro _ W5 ⟨rfl, hb5⟩
    have hB5 : Below W1.heap.size W1 W5 := ((hb2.trans (hb3.mono hb2.size)).trans (hb4.mono (Nat.le_trans hb2.size hb3.size))).trans (hb5.mono (Nat.le_trans hb2.size (Nat.le_trans hb3.size hb4.size)))
    obtain ⟨wb6, hs6, hB6⟩ := hmk W5 hB5
    refine ⟨_, rfl, ?_⟩
    refine ListK.bsl (i := 4) (ps := #[(0, saleV ⟨0, 1, 6, 1, 3⟩), (1, saleV ⟨1, 2, 4, 2, 2⟩), (2, saleV ⟨0, 3, 4, 2, 5⟩), (3, saleV ⟨2, 3, 3, 4, 6⟩)]) (v := .slice (some ⟨W5.heap.size, 0, none⟩) 4 4) rfl (by simp [ev_same, ev_ne, size_put, hz_a1]) (bs29_4 _ _ _ _ W5) ?_
    refine ListK.move (i := 5) (v := .slice none 0 0) rfl (by simp [ev_ne, u0]) ?_
    refine ListK.app29nil (i := 6) (g := W5.heap.size) (n := 4) (c := 4) (c' := 0) rfl (by simp [ev_same, ev_ne, size_put, hz_a1]) (by simp [ev_same, size_put, hz_a1]) (Nat.le_refl _) ?_
    refine ListK.bld (i := 7) (ps := #[(0, .int .i64 4), (1, .int .i64 10), (2, .slice (some ⟨W5.heap.size, 0, none⟩) 4 4)]) (v := .agg #[.int .i64 4, .int .i64 10, .slice (some ⟨W5.heap.size, 0, none⟩) 4 4]) rfl (by simp [ev_same, ev_const, size_put, hz_a1]) (bd31c _ _ _ _) ?_
    refine ListK.store (i := 8) (u := .pointer (some ⟨h, 0, none⟩)) (u' := .agg #[.int .i64 4, .int .i64 10, .slice (some ⟨W5.heap.size, 0, none⟩) 4 4]) rfl (by simp [ev_ne, u2]) (by simp [ev_same, size_put, hz_a1]) (st31 (wb6.cell 0) (wb6.cell 1) (wb6.cell 2) (wb6.frozen 0) (wb6.frozen 1) (wb6.frozen 2)) ?_
    refine ListK.done (hK _ _ (wpIn_ret ?_))
    exact hst _ _ _ _ wb6 hs6 rfl hB6 _ (by simp only [defers_put, hd_a1]) (by simp [ev_ne, u2])
  · skip
    have hbm : bm < h := by rw [← hh]; exact hwm.lt
    have hmk : ∀ W5 : World, Below W1.heap.size W1 W5 → Whole (W5.alloc (.cells (salesL fourL).toArray 61)) h 31 #[.int .i64 0, .int .i64 0, .slice none 0 0] ∧ (W5.alloc (.cells (salesL fourL).toArray 61)).ownsRow W5.heap.size 61 5 (.slice (some ⟨W5.heap.size, 0, none⟩) 4 4) 4 (salesL fourL) ∧ Below h W (W5.alloc (.cells (salesL fourL).toArray 61)) ∧ Whole (W5.alloc (.cells (salesL fourL).toArray 61)) bm 61 (saleC s) ∧ h < W5.heap.size := by
      intro W5 hb5
      have h1 : Below h W W5 := hB1.trans (hb5.mono (by omega))
      exact ⟨(wb.below hb5 wb.lt).alloc _, sales_owned W5 fourL (by decide), h1.alloc (by have := hb5.size; omega) _, (hwm.below h1 hbm).alloc _, by have := hb5.size; omega⟩
    refine wpIn_seq (region_l 9 (wideF_plain _) (by kernel_rfl) (by kernel_rfl) ?_)
    intro K hK
    refine ListK.call (i := 0) (vs := #[.int .i64 0, .int .i64 1, .int .i64 6, .int .i64 1, .int .i64 3]) rfl (enters_of Try.func37 (by kernel_rfl) rfl) (by simp [ev_const]) (((mksale_any _ _ _ _ _ _)).mono ?_)
    rintro _ W2 ⟨rfl, hb2⟩
    refine ⟨_, rfl, ?_⟩
    refine ListK.call (i := 1) (vs := #[.int .i64 1, .int .i64 2, .int .i64 4, .int .i64 2, .int .i64 2]) rfl (enters_of Try.func37 (by kernel_rfl) rfl) (by simp [ev_const]) (((mksale_any _ _ _ _ _ _)).mono ?_)
    rintro _ W3 ⟨rfl, hb3⟩
    refine ⟨_, rfl, ?_⟩
    refine ListK.call (i := 2) (vs := #[.int .i64 0, .int .i64 3, .int .i64 4, .int .i64 2, .int .i64 5]) rfl (enters_of Try.func37 (by kernel_rfl) rfl) (by simp [ev_const]) (((mksale_any _ _ _ _ _ _)).mono ?_)
    rintro _ W4 ⟨rfl, hb4⟩
    refine ⟨_, rfl, ?_⟩
    refine ListK.call (i := 3) (vs := #[.int .i64 2, .int .i64 3, .int .i64 3, .int .i64 4, .int .i64 6]) rfl (enters_of Try.func37 (by kernel_rfl) rfl) (by simp [ev_const]) (((mksale_any _ _ _ _ _ _)).mono ?_)
    rintro _ W5 ⟨rfl, hb5⟩
    have hB5 : Below W1.heap.size W1 W5 := ((hb2.trans (hb3.mono hb2.size)).trans (hb4.mono (Nat.le_trans hb2.size hb3.size))).trans (hb5.mono (Nat.le_trans hb2.size (Nat.le_trans hb3.size hb4.size)))
    obtain ⟨wb6, own6, hB6, hw6, hlt6⟩ := hmk W5 hB5
    refine ⟨_, rfl, ?_⟩
    refine ListK.bsl (i := 4) (ps := #[(0, saleV ⟨0, 1, 6, 1, 3⟩), (1, saleV ⟨1, 2, 4, 2, 2⟩), (2, saleV ⟨0, 3, 4, 2, 5⟩), (3, saleV ⟨2, 3, 3, 4, 6⟩)]) (v := .slice (some ⟨W5.heap.size, 0, none⟩) 4 4) rfl (by simp [ev_same, ev_ne, size_put, hz_a1]) (bs29_4 _ _ _ _ W5) ?_
    refine ListK.move (i := 5) (v := .slice (some ⟨bm, 0, none⟩) 1 1) rfl (by simp [ev_ne, u0]) ?_
    refine ListK.app29 (i := 6) (v := .slice (some ⟨W5.heap.size, 0, none⟩) 4 4) (n := 4) rfl own6 (by simp [ev_same, ev_ne, size_put, hz_a1]) ⟨bm, 0, none⟩ 1 1 (saleL s) (by simp [ev_same, size_put, hz_a1]) rfl (by omega) (news_of hw6) (fun u hu => sales_one (l := [s]) (by simpa [salesL] using hu)) (by unfold maxLen; omega) (by omega) (by simp) ?_
    intro g cap W7 hown hgr hat
    have hne : ∀ k, k < W5.heap.size → ¬ (some k = (Value.slice (some ⟨W5.heap.size, 0, none⟩) 4 4).ownBlock) := fun k hk e => by simp [Value.ownBlock] at e; omega
    have e7 := Else.of_grown hgr
    have hS6 : h ≤ (W5.alloc (.cells (salesL fourL).toArray 61)).heap.size := by simp; omega
    have wb7 := e7.whole (hne h hlt6) wb6
    have hB7 : Below h W W7 := hB6.trans (e7.below hS6 (fun k hk => hne k (by omega)))
    refine ListK.bld (i := 7) (ps := #[(0, .int .i64 4), (1, .int .i64 10), (2, .slice (some ⟨g, 0, none⟩) 5 cap)]) (v := .agg #[.int .i64 4, .int .i64 10, .slice (some ⟨g, 0, none⟩) 5 cap]) rfl (by simp [ev_same, ev_const, size_put, hz_a1]) (bd31c _ _ _ _) ?_
    refine ListK.store (i := 8) (u := .pointer (some ⟨h, 0, none⟩)) (u' := .agg #[.int .i64 4, .int .i64 10, .slice (some ⟨g, 0, none⟩) 5 cap]) rfl (by simp [ev_ne, u2]) (by simp [ev_same, size_put, hz_a1]) (st31 (wb7.cell 0) (wb7.cell 1) (wb7.cell 2) (wb7.frozen 0) (wb7.frozen 1) (wb7.frozen 2)) ?_
    refine ListK.done (hK _ _ (wpIn_ret ?_))
    refine hst _ _ _ _ wb7 ?_ rfl hB7 _ (by simp only [defers_put, hd_a1]) (by simp [ev_ne, u2])
    have hown' : W7.ownsRow W5.heap.size 61 5 (.slice (some ⟨g, 0, none⟩) 5 cap) (fourL ++ [s]).length (salesL (fourL ++ [s])) := by
      rw [salesL_app]
      exact hown
    obtain ⟨A, c, e, hs⟩ := sales_of_owns hown'
    cases e
    exact hs
end Go.Proofs.Ytfcnombmphophaa

/-! Qb: ints: the same numbers? -/
namespace Go.Proofs.Ytfcnombmphophaa
open Go.RowKit Go.Shelf
noncomputable def opsT0 : Array Oper := (Try.f25.body.bind (regionOf 0)).getD #[]
noncomputable def opsT1 : Array Oper := (Try.f25.body.bind (regionOf 1)).getD #[]
noncomputable def opsT2 : Array Oper := (Try.f25.body.bind (regionOf 2)).getD #[]
noncomputable def opsT3 : Array Oper := (Try.f25.body.bind (regionOf 3)).getD #[]
noncomputable def opsT4 : Array Oper := (Try.f25.body.bind (regionOf 4)).getD #[]
noncomputable def opsT5 : Array Oper := (Try.f25.body.bind (regionOf 5)).getD #[]
noncomputable def opsT7 : Array Oper := (Try.f25.body.bind (regionOf 7)).getD #[]
noncomputable def opsT8 : Array Oper := (Try.f25.body.bind (regionOf 8)).getD #[]
section
attribute [local irreducible] AnyK StepK
noncomputable def opsT6 : Array Oper := (Try.f25.body.bind (regionOf 6)).getD #[]
set_option maxRecDepth 10000 in
set_option maxHeartbeats 2000000 in
theorem regionT6 {F : Fence} {n : Nat} (hF : WideF F Try.prog) {Q : Exit → Act → World → Prop} {a : Act} {w : World} {b b' o o' m m' c c' k : Nat} {x y : Int} (hsz : a.tmps.size = 26)
    (t0 : a.eval (.tmp 0) = .slice (some ⟨b, o, none⟩) m c) (t1 : a.eval (.tmp 1) = .slice (some ⟨b', o', none⟩) m' c') (t5 : a.eval (.tmp 5) = .int .i64 k)
    (m0 : w.cell? ⟨b, o + k, none⟩ = some (.int .i64 x)) (m1 : w.cell? ⟨b', o' + k, none⟩ = some (.int .i64 y)) (h : k < m) (h' : k < m')
    (hK : ∀ a', a'.tmps.size = 26 → a'.defers = a.defers → a'.eval (.tmp 25) = .bool (x != y) → (∀ e : Nat, e < 17 → a'.eval (.tmp e) = a.eval (.tmp e)) → Q .normal a' w.drew) :
    (Code.region 6 opsT6 true).wpIn F n Try.prog Q a w := by
  have hR : (fun w : World => w.cell? ⟨b, o + k, none⟩ = some (.int .i64 x) ∧ w.cell? ⟨b', o' + k, none⟩ = some (.int .i64 y)) w.drew := ⟨m0, m1⟩
  have hB : Below w.heap.size w w.drew := (Below.refl _ _).drew
  refine region_K (KpR (fun w => w.cell? ⟨b, o + k, none⟩ = some (.int .i64 x) ∧ w.cell? ⟨b', o' + k, none⟩ = some (.int .i64 y)) (fun _ => false)) hF (by kernel_rfl) Try.mixed ?_
  change AnyK _ _ _ _ 9 (Array.replicate 9 false) _ _
  clear hB
  generalize w.drew = W at *
  refine AnyK.move (i := 0) (may_of rfl (by kernel_rfl) (by kernel_rfl) (by kernel_rfl)) (v := .slice (some ⟨b, o, none⟩) m c) (by simp [t0]) hR ?_
  refine AnyK.move (i := 1) (may_of rfl (by kernel_rfl) (by kernel_rfl) (by kernel_rfl)) (v := .int .i64 k) (by simp [ev_ne, t5]) hR ?_
  refine AnyK.index (i := 2) (may_of rfl (by kernel_rfl) (by kernel_rfl) (by kernel_rfl)) (u := .slice (some ⟨b, o, none⟩) m c) (u' := .int .i64 k) (v := .pointer (some ⟨b, o + k, none⟩)) (by simp [ev_same, ev_ne, hsz]) (by simp [ev_same, size_put, hsz]) (fun w => ix25o h w) hR ?_
  refine AnyK.load (i := 3) (may_of rfl (by kernel_rfl) (by kernel_rfl) (by kernel_rfl)) (p := ⟨b, o + k, none⟩) (v := .int .i64 x) (by simp [ev_same, size_put, hsz]) (fun w hw => ld3 hw.1) hR ?_
  refine AnyK.move (i := 4) (may_of rfl (by kernel_rfl) (by kernel_rfl) (by kernel_rfl)) (v := .slice (some ⟨b', o', none⟩) m' c') (by simp [ev_ne, t1]) hR ?_
  refine AnyK.move (i := 5) (may_of rfl (by kernel_rfl) (by kernel_rfl) (by kernel_rfl)) (v := .int .i64 k) (by simp [ev_ne, t5]) hR ?_
  refine AnyK.index (i := 6) (may_of rfl (by kernel_rfl) (by kernel_rfl) (by kernel_rfl)) (u := .slice (some ⟨b', o', none⟩) m' c') (u' := .int .i64 k) (v := .pointer (some ⟨b', o' + k, none⟩)) (by simp [ev_same, ev_ne, size_put, hsz]) (by simp [ev_same, size_put, hsz]) (fun w => ix25o h' w) hR ?_
  refine AnyK.load (i := 7) (may_of rfl (by kernel_rfl) (by kernel_rfl) (by kernel_rfl)) (p := ⟨b', o' + k, none⟩) (v := .int .i64 y) (by simp [ev_same, size_put, hsz]) (fun w hw => ld3 hw.2) hR ?_
  refine AnyK.bin (i := 8) (may_of rfl (by kernel_rfl) (by kernel_rfl) (by kernel_rfl)) (u := .int .i64 x) (u' := .int .i64 y) (v := .bool (x != y)) (by simp [ev_same, ev_ne, size_put, hsz]) (by simp [ev_same, size_put, hsz]) (fun w => neq3 w) hR ?_
  refine AnyK.done (by kernel_rfl) (hK _ ?_ ?_ ?_ ?_)
  · simp only [size_put, hsz]
  · simp only [defers_put]
  · exact (by simp [ev_same, size_put, hsz])
  · intro e he
    iterate 9 refine (ev_ne (by omega)).trans ?_
    rfl

end
noncomputable def roundT : Code := .seq (.seq (.region 4 opsT4 false) (.cond (.tmp 14) .skip (.exit 0))) (.seq (.block 1 (.seq (.region 6 opsT6 true) (.cond (.tmp 25) (.seq (.region 7 opsT7 false) .ret) .skip))) (.region 5 opsT5 false))
noncomputable def code25 : Code := .seq (.region 0 opsT0 false) (.seq (.seq (.region 1 opsT1 false) (.cond (.tmp 10) (.seq (.region 2 opsT2 false) .ret) .skip)) (.seq (.seq (.region 3 opsT3 false) (.block 0 (.loop roundT))) (.seq (.region 8 opsT8 false) .ret)))
theorem body25 : Try.f25.body = some code25 := by kernel_rfl

def sameL : List Int → List Int → Bool
  | [], [] => true
  | x :: xs, y :: ys => x == y && sameL xs ys
  | _, _ => false
theorem sameL_iff : ∀ xs ys : List Int, sameL xs ys = decide (xs = ys)
  | [], [] => by simp [sameL]
  | [], _ :: _ => by simp [sameL]
  | _ :: _, [] => by simp [sameL]
  | x :: xs, y :: ys => by
    rw [sameL, sameL_iff xs ys, Bool.eq_iff_iff]
    simp
abbrev TP (W : World) (v : Bool) : Ending → World → Prop := fun e w' => e = .returned (.bool v) ∧ Below W.heap.size W w'
set_option maxRecDepth 10000 in
set_option maxHeartbeats 1000000 in
theorem ints_any (A A' : Option Addr) (c c' : Nat) (xs ys : List Int) (W : World) (hl : xs.length ≤ 10000) (h1 : IntsAt W W.heap.size A xs) (h2 : IntsAt W W.heap.size A' ys) :
    Calls Try.prog 25 #[.slice A xs.length c, .slice A' ys.length c'] W (TP W (sameL xs ys)) := by
  refine (callsIn_wide (n := 5)).1 (callsIn_of_wp Try.func25 body25 trivial ?_ rfl)
  obtain ⟨a, ha⟩ : ∃ a : Act, a = { tmps := #[.slice A xs.length c, .slice A' ys.length c'] ++ Array.replicate (Try.f25.ntmps - (#[.slice A xs.length c, .slice A' ys.length c'] : Array Value).size) undef, defers := [] } := ⟨_, rfl⟩
  have hsz : a.tmps.size = 26 := by rw [ha]; simp [Try.ntmps25]
  have t0 : a.eval (.tmp 0) = .slice A xs.length c := by rw [ha]; simp [Act.eval]
  have t1 : a.eval (.tmp 1) = .slice A' ys.length c' := by rw [ha]; simp [Act.eval]
  have hdf : a.defers = [] := by rw [ha]
  rw [← ha]
  clear ha
  have hret : ∀ (a' : Act) (W' : World) (v : Bool), a'.defers = [] → a'.eval (.tmp 4) = .bool v → Below W.heap.size W W' → v = sameL xs ys → bodyPost Try.prog Try.f25 (TP W (sameL xs ys)) .ret a' W' := fun a' W' v hd h4 hb he =>
    bodyPost_ret (v := .bool v) (res1 Try.results25 h4) hd ⟨by rw [he], hb⟩
  unfold code25
  refine wpIn_seq (region_l 1 (wideF_plain _) (by kernel_rfl) (by kernel_rfl) ?_)
  intro K hK
  refine ListK.assign (i := 0) (v := .bool false) rfl (by simp [ev_const]) ?_
  refine ListK.done (hK _ _ ?_)
  clear hK K
  by_cases hlen : xs.length = ys.length
  · skip
    refine wpIn_seq (wpIn_seq (region_l 5 (wideF_plain _) (by kernel_rfl) (by kernel_rfl) ?_))
    intro K hK
    refine ListK.move (i := 0) (v := .slice A xs.length c) rfl (by simp [ev_ne, t0]) ?_
    refine ListK.len (i := 1) (u := .slice A xs.length c) (v := .int .i64 xs.length) rfl (by simp [ev_same, size_put, hsz]) (ln25 _ _ _ _ _) rfl ?_
    refine ListK.move (i := 2) (v := .slice A' ys.length c') rfl (by simp [ev_ne, t1]) ?_
    refine ListK.len (i := 3) (u := .slice A' ys.length c') (v := .int .i64 ys.length) rfl (by simp [ev_same, size_put, hsz]) (ln25 _ _ _ _ _) rfl ?_
    refine ListK.bin (i := 4) (u := .int .i64 (xs.length : Int)) (u' := .int .i64 (ys.length : Int)) (v := .bool false) rfl (by simp [ev_same, ev_ne, size_put, hsz]) (by simp [ev_same, size_put, hsz]) (neqF (by omega) _) ?_
    refine ListK.done (hK _ _ ?_)
    clear hK K
    refine wpIn_cond (t := false) (by simp [ev_same, size_put, hsz]) (wpIn_skip ?_)
    show (Code.seq _ _).wpIn _ _ _ _ _ _
    refine wpIn_seq (wpIn_seq (region_l 1 (wideF_plain _) (by kernel_rfl) (by kernel_rfl) ?_))
    intro K hK
    refine ListK.assign (i := 0) (v := .int .i64 0) rfl (by simp [ev_const]) ?_
    refine ListK.done (hK _ _ ?_)
    clear hK K
    refine wpIn_block (wpIn_loop (fun a W' => ∃ k : Nat, k ≤ xs.length ∧ a.tmps.size = 26 ∧ a.defers = [] ∧ a.eval (.tmp 0) = .slice A xs.length c ∧ a.eval (.tmp 1) = .slice A' ys.length c' ∧ a.eval (.tmp 5) = .int .i64 k ∧ Below W.heap.size W W' ∧ sameL xs ys = sameL (xs.drop k) (ys.drop k)) (fun a _ => xs.length - (intOf (a.eval (.tmp 5))).toNat)
      ⟨0, Nat.zero_le _, by simp only [size_put, hsz], by simp only [defers_put, hdf], (by simp [ev_ne, t0]), (by simp [ev_ne, t1]), (by simp [ev_same, size_put, hsz]), Below.refl _ _, rfl⟩ ?_)
    clear hsz t0 t1 hdf a
    rintro a W1 ⟨k, hk, hsz, hdf, t0, t1, t5, hb, hs⟩
    refine wpIn_seq (wpIn_seq (region_l 4 (wideF_plain _) (by kernel_rfl) (by kernel_rfl) ?_))
    intro K hK
    refine ListK.move (i := 0) (v := .int .i64 (k : Int)) rfl (by simp [t5]) ?_
    refine ListK.move (i := 1) (v := .slice A xs.length c) rfl (by simp [ev_ne, t0]) ?_
    refine ListK.len (i := 2) (u := .slice A xs.length c) (v := .int .i64 xs.length) rfl (by simp [ev_same, size_put, hsz]) (ln25 _ _ _ _ _) rfl ?_
    refine ListK.bin (i := 3) (u := .int .i64 (k : Int)) (u' := .int .i64 (xs.length : Int)) (v := .bool (decide ((k : Int) < (xs.length : Int)))) rfl (by simp [ev_same, ev_ne, hsz]) (by simp [ev_same, size_put, hsz]) (lss3 _) ?_
    refine ListK.done (hK _ _ ?_)
    clear hK K
    by_cases hlt : k < xs.length
    · refine wpIn_cond (t := true) (by simp [ev_same, size_put, hsz]; omega) (wpIn_skip ?_)
      generalize hA : Act.put _ _ _ = a1
      have hz_a1 : a1.tmps.size = 26 := by rw [← hA]; simp only [size_put, hsz]
      have u0 : a1.eval (.tmp 0) = .slice A xs.length c := by rw [← hA]; exact (by simp [ev_ne, t0])
      have u1 : a1.eval (.tmp 1) = .slice A' ys.length c' := by rw [← hA]; exact (by simp [ev_ne, t1])
      have u5 : a1.eval (.tmp 5) = .int .i64 (k : Int) := by rw [← hA]; exact (by simp [ev_ne, t5])
      have hd_a1 : a1.defers = [] := by rw [← hA]; simp only [defers_put, hdf]
      clear hA
      obtain ⟨b, o, hA, hbB, hc⟩ := h1 k xs[k] (List.getElem?_eq_getElem hlt)
      obtain ⟨b', o', hA', hbB', hc'⟩ := h2 k ys[k] (List.getElem?_eq_getElem (by omega))
      subst hA hA'
      have hc1 := (hb.cell (p := ⟨b, o + k, none⟩) hbB).trans hc
      have hc1' := (hb.cell (p := ⟨b', o' + k, none⟩) hbB').trans hc'
      show (Code.seq _ _).wpIn _ _ _ _ _ _
      refine wpIn_seq (wpIn_block (wpIn_seq (regionT6 (wideF_plain _) hz_a1 u0 u1 u5 hc1 hc1' hlt (show k < ys.length by omega) ?_)))
      intro a2 hz2 hd2 v25 he2
      have hstep : sameL (xs.drop k) (ys.drop k) = (xs[k] == ys[k] && sameL (xs.drop (k + 1)) (ys.drop (k + 1))) := by
        rw [List.drop_eq_getElem_cons hlt, List.drop_eq_getElem_cons (show k < ys.length by omega)]
        rfl
      have v5 := (he2 5 (by omega)).trans u5
      by_cases hxy : xs[k] = ys[k]
      · refine wpIn_cond (t := false) (v25.trans (by simp [hxy])) (wpIn_skip ?_)
        show (Code.region 5 opsT5 false).wpIn _ _ _ _ _ _
        refine region_l 3 (wideF_plain _) (by kernel_rfl) (by kernel_rfl) ?_
        intro K hK
        refine ListK.move (i := 0) (v := .int .i64 (k : Int)) rfl (by simp [v5]) ?_
        refine ListK.bin (i := 1) (u := .int .i64 (k : Int)) (u' := .int .i64 1) (v := .int .i64 ((k : Int) + 1)) rfl (by simp [ev_same, hz2]) (by simp [ev_const]) (add3 (by omega) (by omega) _) ?_
        refine ListK.assign (i := 2) (v := .int .i64 ((k + 1 : Nat) : Int)) rfl (by simp [ev_same, size_put, hz2]) ?_
        skip
        have hmu : ∀ b : Act, b.eval (.tmp 5) = .int .i64 ((k + 1 : Nat) : Int) → xs.length - (intOf (b.eval (.tmp 5))).toNat < xs.length - (intOf (a.eval (.tmp 5))).toNat := by
          intro b e
          rw [e, t5]
          simp only [intOf]
          omega
        refine ListK.done (hK _ _ ⟨⟨k + 1, by omega, by simp only [size_put, hz2], by simp only [defers_put, hd2, hd_a1], ?_, ?_, (by simp [ev_same, size_put, hz2]), hb.drew, by rw [hs, hstep, hxy]; simp⟩, hmu _ (by simp [ev_same, size_put, hz2])⟩)
        · exact (by simp [ev_ne]; exact (he2 0 (by omega)).trans u0)
        · exact (by simp [ev_ne]; exact (he2 1 (by omega)).trans u1)
      · refine wpIn_cond (t := true) (v25.trans (by simp [hxy])) ?_
        refine wpIn_seq (region_l 1 (wideF_plain _) (by kernel_rfl) (by kernel_rfl) ?_)
        intro K hK
        refine ListK.assign (i := 0) (v := .bool false) rfl (by simp [ev_const]) ?_
        refine ListK.done (hK _ _ (wpIn_ret ?_))
        show bodyPost Try.prog Try.f25 (TP W (sameL xs ys)) Exit.ret _ _
        exact hret _ _ false (by simp only [defers_put, hd2, hd_a1]) (by simp [ev_same, hz2]) hb.drew (by rw [hs, hstep]; simp [hxy])
    · obtain rfl : k = xs.length := by omega
      refine wpIn_cond (t := false) (by simp [ev_same, size_put, hsz]) (wpIn_exit ?_)
      generalize hA : Act.put _ _ _ = a1
      have hz_a1 : a1.tmps.size = 26 := by rw [← hA]; simp only [size_put, hsz]
      have u0 : a1.eval (.tmp 0) = .slice A xs.length c := by rw [← hA]; exact (by simp [ev_ne, t0])
      have u1 : a1.eval (.tmp 1) = .slice A' ys.length c' := by rw [← hA]; exact (by simp [ev_ne, t1])
      have hd_a1 : a1.defers = [] := by rw [← hA]; simp only [defers_put, hdf]
      clear hA
      show (Code.seq _ _).wpIn _ _ _ _ _ _
      refine wpIn_seq (region_l 1 (wideF_plain _) (by kernel_rfl) (by kernel_rfl) ?_)
      intro K hK
      refine ListK.assign (i := 0) (v := .bool true) rfl (by simp [ev_const]) ?_
      refine ListK.done (hK _ _ (wpIn_ret ?_))
      show bodyPost Try.prog Try.f25 (TP W (sameL xs ys)) Exit.ret _ _
      exact hret _ _ true (by simp only [defers_put, hd_a1]) (by simp [ev_same, hz_a1]) hb (by rw [hs, List.drop_length, hlen, List.drop_length]; rfl)
  · skip
    refine wpIn_seq (wpIn_seq (region_l 5 (wideF_plain _) (by kernel_rfl) (by kernel_rfl) ?_))
    intro K hK
    refine ListK.move (i := 0) (v := .slice A xs.length c) rfl (by simp [ev_ne, t0]) ?_
    refine ListK.len (i := 1) (u := .slice A xs.length c) (v := .int .i64 xs.length) rfl (by simp [ev_same, size_put, hsz]) (ln25 _ _ _ _ _) rfl ?_
    refine ListK.move (i := 2) (v := .slice A' ys.length c') rfl (by simp [ev_ne, t1]) ?_
    refine ListK.len (i := 3) (u := .slice A' ys.length c') (v := .int .i64 ys.length) rfl (by simp [ev_same, size_put, hsz]) (ln25 _ _ _ _ _) rfl ?_
    refine ListK.bin (i := 4) (u := .int .i64 (xs.length : Int)) (u' := .int .i64 (ys.length : Int)) (v := .bool true) rfl (by simp [ev_same, ev_ne, size_put, hsz]) (by simp [ev_same, size_put, hsz]) (neqT (by omega) _) ?_
    refine ListK.done (hK _ _ ?_)
    clear hK K
    refine wpIn_cond (t := true) (by simp [ev_same, size_put, hsz]) ?_
    generalize hA : Act.put _ _ _ = a1
    have hz_a1 : a1.tmps.size = 26 := by rw [← hA]; simp only [size_put, hsz]
    have u0 : a1.eval (.tmp 0) = .slice A xs.length c := by rw [← hA]; exact (by simp [ev_ne, t0])
    have u1 : a1.eval (.tmp 1) = .slice A' ys.length c' := by rw [← hA]; exact (by simp [ev_ne, t1])
    have hd_a1 : a1.defers = [] := by rw [← hA]; simp only [defers_put, hdf]
    clear hA
    refine wpIn_seq (region_l 1 (wideF_plain _) (by kernel_rfl) (by kernel_rfl) ?_)
    intro K hK
    refine ListK.assign (i := 0) (v := .bool false) rfl (by simp [ev_const]) ?_
    refine ListK.done (hK _ _ (wpIn_ret ?_))
    show bodyPost Try.prog Try.f25 (TP W (sameL xs ys)) Exit.ret _ _
    refine hret _ _ false (by simp only [defers_put, hd_a1]) (by simp [ev_same, hz_a1]) (Below.refl _ _) ?_
    rw [sameL_iff]
    symm
    simp only [decide_eq_false_iff_not]
    intro e
    exact hlen (by rw [e])
end Go.Proofs.Ytfcnombmphophaa

/-! Pb: A way of the search is a truth. Plain words, no program. -/
namespace Go.Proofs.Ytfcnombmphophaa
/-- What a sale changes. -/
def delta (s : Sale) (i : Nat) : Int := (if i = s.dst.toNat then s.many else 0) - (if i = s.src.toNat then s.many else 0)
theorem sold_delta (st : Nat → Int) (s : Sale) (i : Nat) : sold st s i = st i + delta s i := by
  unfold sold upd delta
  by_cases h1 : i = s.dst.toNat <;> by_cases h2 : i = s.src.toNat
  · subst h1
    simp [← h2]
    try omega
  · subst h1
    simp [h2]
    try omega
  · subst h2
    simp [h1]
    try omega
  · simp [h1, h2]
theorem stocksTo_or {t : Int} {l : List Sale} {d n : Nat} (hb : d.testBit n = false) (hn : n < l.length) : ∀ (k : Nat) (i : Nat), k ≤ l.length → stocksTo t l (d ||| 2 ^ n) k i = stocksTo t l d k i + (if n < k then delta (saleOf l n) i else 0)
  | 0, i, _ => by simp [stocksTo]
  | k + 1, i, hk => by
    have hs := List.getElem?_eq_getElem (show k < l.length by omega)
    have ih := fun i => stocksTo_or hb hn k i (t := t) (by omega)
    by_cases hkn : k = n
    · subst hkn
      have h1 : (d ||| 2 ^ k).testBit k = true := by rw [Nat.testBit_or, Nat.testBit_two_pow_self]; simp
      rw [stocksTo_yes hs h1, stocksTo_no hb, sold_delta, ih, if_neg (by omega), if_pos (by omega), saleOf_eq hs]
      omega
    · have h1 : (d ||| 2 ^ n).testBit k = d.testBit k := by rw [Nat.testBit_or, Nat.testBit_two_pow_of_ne (Ne.symm hkn)]; simp
      by_cases hd : d.testBit k = true
      · rw [stocksTo_yes hs (by rw [h1]; exact hd), stocksTo_yes hs hd, sold_delta, sold_delta, ih]
        by_cases h2 : n < k
        · rw [if_pos h2, if_pos (by omega)]
          omega
        · rw [if_neg h2, if_neg (by omega)]
          omega
      · have hd' : d.testBit k = false := by simpa using hd
        rw [stocksTo_no (by rw [h1]; exact hd'), stocksTo_no hd', ih]
        by_cases h2 : n < k
        · rw [if_pos h2, if_pos (by omega)]
        · rw [if_neg h2, if_neg (by omega)]
theorem stocksOf_or {t : Int} {l : List Sale} {d n : Nat} (hb : d.testBit n = false) (hn : n < l.length) : stocksOf t l (d ||| 2 ^ n) = sold (stocksOf t l d) (saleOf l n) := by
  funext i
  rw [sold_delta, stocksOf, stocksOf, stocksTo_or hb hn _ _ (Nat.le_refl _), if_pos hn]
theorem stocksTo_zero {t : Int} {l : List Sale} : ∀ k, stocksTo t l 0 k = upd (fun _ => 0) 0 t
  | 0 => rfl
  | k + 1 => by rw [stocksTo_no (by simp), stocksTo_zero k]
theorem nextB_facts {t : Int} {l : List Sale} {d n : Nat} (h : nextB t l d n = true) : n < l.length ∧ d.testBit n = false ∧ (saleOf l n).many ≤ stocksOf t l d (saleOf l n).src.toNat := by
  simpa [nextB] using h

theorem daysOf_in {l : List Sale} {f : Nat → Int} {x : Int} {n : Nat} {ns : List Nat} {m : Nat} (h : m ≠ n) : daysOf l x (n :: ns) f m = daysOf l (max x (saleOf l n).lo) ns f m := by
  simp [daysOf, upd, h]
theorem path_bits {t : Int} {l : List Sale} : ∀ (ns : List Nat) (d : Nat) (x : Int), PathOk t l d x ns → ∀ m, m ∈ ns → d.testBit m = false
  | [], _, _, _, _, h => by cases h
  | n :: ns, d, x, ⟨h1, _, h3⟩, m, hm => by
    rcases List.mem_cons.1 hm with rfl | hm
    · exact (nextB_facts h1).2.1
    · have := path_bits ns _ _ h3 m hm
      rw [Nat.testBit_or] at this
      simp at this
      exact this.1
theorem path_prove {t : Int} {l : List Sale} (dys : List Int) (f : Nat → Int) : ∀ (ns : List Nat) (d : Nat) (x : Int) (sn : Nat → Bool), PathOk t l d x ns → (∀ m, m ∈ ns → (dys[m]?).getD 0 = daysOf l x ns f m) → (∀ m, sn m = d.testBit m) →
    proveGo l dys (ns.map fun n => ((n : Nat) : Int)) sn (stocksOf t l d) x = true
  | [], _, _, _, _, _, _ => rfl
  | n :: ns, d, x, sn, ⟨h1, h2, h3⟩, hd, hs => by
    obtain ⟨hn, hb, hm⟩ := nextB_facts h1
    have hdn := hd n List.mem_cons_self
    rw [show daysOf l x (n :: ns) f n = max x (saleOf l n).lo by simp [daysOf, upd]] at hdn
    simp only [List.map_cons, proveGo, Int.toNat_natCast, hdn]
    rw [if_neg (by simp [inR]; omega), if_neg (by rw [hs, hb]; simp), if_neg (by simp [inR]; omega), if_neg (by omega), if_neg (by omega), ← stocksOf_or hb hn]
    refine path_prove dys f ns _ _ (updB sn n) h3 (fun m hm' => ?_) (fun m => ?_)
    · have hne : m ≠ n := by
        rintro rfl
        have := path_bits ns _ _ h3 m hm'
        rw [Nat.testBit_or, Nat.testBit_two_pow_self] at this
        simp at this
      rw [hd m (List.mem_cons_of_mem _ hm'), daysOf_in hne]
    · unfold updB
      rw [Nat.testBit_or]
      by_cases h : m = n
      · subst h
        simp
      · rw [if_neg h, hs, Nat.testBit_two_pow_of_ne (Ne.symm h)]
        simp
/-- How many of the first n bits are set. -/
def cnt (d : Nat) : Nat → Nat
  | 0 => 0
  | k + 1 => cnt d k + if d.testBit k = true then 1 else 0
theorem cnt_all : ∀ (n m : Nat), n ≤ m → cnt (2 ^ m - 1) n = n
  | 0, _, _ => rfl
  | n + 1, m, h => by
    rw [cnt, cnt_all n m (by omega), Nat.testBit_two_pow_sub_one]
    simp
    omega
theorem cnt_or {d k : Nat} (hb : d.testBit k = false) : ∀ n, cnt (d ||| 2 ^ k) n = cnt d n + if k < n then 1 else 0
  | 0 => rfl
  | n + 1 => by
    rw [cnt, cnt, cnt_or hb n, Nat.testBit_or]
    by_cases h : n = k
    · subst h
      simp [hb]
    · rw [Nat.testBit_two_pow_of_ne (Ne.symm h)]
      by_cases h2 : k < n
      · simp [h2, show k < n + 1 by omega]
        omega
      · simp [h2, show ¬ k < n + 1 by omega]
theorem cnt_zero : ∀ n, cnt 0 n = 0
  | 0 => rfl
  | n + 1 => by simp [cnt, cnt_zero n]
theorem path_len {t : Int} {l : List Sale} : ∀ (ns : List Nat) (d : Nat) (x : Int), PathOk t l d x ns → cnt d l.length + ns.length = l.length
  | [], d, x, h => by
    have : d = 2 ^ l.length - 1 := h
    rw [this, cnt_all _ _ (Nat.le_refl _)]
    rfl
  | n :: ns, d, x, ⟨h1, _, h3⟩ => by
    obtain ⟨hn, hb, _⟩ := nextB_facts h1
    have := path_len ns _ _ h3
    rw [cnt_or hb, if_pos hn] at this
    simp only [List.length_cons]
    omega
/-- What Order gives is a truth. -/
theorem order_prove {o t : Int} {l : List Sale} {xs ds : List Int} (h0 : triedE o t l true = 0) (h : OrdRes o t l xs ds) : proveB o t l xs ds = true := by
  unfold OrdRes at h
  rw [if_pos h0] at h
  obtain ⟨ns, hp, rfl, rfl⟩ := h
  have hl := path_len ns _ _ hp
  rw [cnt_zero] at hl
  have hst : stocksOf t l 0 = upd (fun _ => 0) 0 t := stocksTo_zero _
  have hgo := path_prove ((List.range l.length).map (daysOf l 0 ns fun _ => 0)) (fun _ => 0) ns 0 0 (fun _ => false) hp (fun m hm => ?_) (fun m => by simp)
  · rw [hst] at hgo
    unfold proveB
    rw [hgo]
    simp [(triedE_zero h0).1]
    omega
  · have hml : m < l.length := by
      have : ∀ (ns : List Nat) (d : Nat) (x : Int), PathOk t l d x ns → ∀ m, m ∈ ns → m < l.length := by
        intro ns
        induction ns with
        | nil => intro _ _ _ m hm; cases hm
        | cons n ns ih =>
          rintro d x ⟨h1, _, h3⟩ m hm
          rcases List.mem_cons.1 hm with rfl | hm
          · exact (nextB_facts h1).1
          · exact ih _ _ h3 m hm
      exact this ns _ _ hp m hm
    simp [hml]
end Go.Proofs.Ytfcnombmphophaa

/-! Qc: wakes: the drawn region of its last line. -/
namespace Go.Proofs.Ytfcnombmphophaa
open Go.RowKit Go.Shelf
theorem four_nil (W : World) : Calls Try.prog 35 #[.slice none 0 0] W (QP W fourL) := by
  have := four_gen (.slice none 0 0) [] W (.inl ⟨rfl, rfl⟩)
  rwa [List.append_nil] at this
theorem four_one (s : Sale) (b : Nat) (W : World) (h : Whole W b 61 (saleC s)) : Calls Try.prog 35 #[.slice (some ⟨b, 0, none⟩) 1 1] W (QP W (fourL ++ [s])) :=
  four_gen _ [s] W (.inr ⟨s, b, rfl, rfl, h⟩)
theorem whole_ints {W : World} {p : Nat} (ys : List Int) (h : Whole W p 3 (ys.map (Value.int .i64)).toArray) : IntsAt W W.heap.size (some ⟨p, 0, none⟩) ys := by
  intro k x hx
  refine ⟨p, 0, rfl, h.lt, ?_⟩
  rw [Nat.zero_add, h.cell]
  simp [hx]
theorem ints_lit {W : World} {v : Value} {xs : List Int} {p : Nat} (ys : List Int) (h : RI W v xs) (hw : Whole W p 3 (ys.map (Value.int .i64)).toArray) (hl : xs.length ≤ 10000) (hs : sameL xs ys = true) :
    Calls Try.prog 25 #[v, .slice (some ⟨p, 0, none⟩) ys.length ys.length] W fun e w' => e = .returned (.bool true) ∧ Below W.heap.size W w' := by
  obtain ⟨A, c, rfl, _, hi⟩ := h
  have := ints_any A (some ⟨p, 0, none⟩) c ys.length xs ys W hl hi (whole_ints ys hw)
  rw [hs] at this
  exact this
theorem eql27T {x y : Operand} {m n : Int} (h : m = n) (w : World) : (do eqGuard .eql 27 x y (.int .i64 m) (.int .i64 n); binOp .eql 27 (.int .i64 m) (.int .i64 n) : Sem Value).run Try.prog w = .ok (.bool true) w := by
  subst h
  go_simp
theorem eql46 {x y : Operand} (a b c d : Int) (w : World) : (do eqGuard .eql 46 x y (.agg #[.int .i64 a, .int .i64 b]) (.agg #[.int .i64 c, .int .i64 d]); binOp .eql 46 (.agg #[.int .i64 a, .int .i64 b]) (.agg #[.int .i64 c, .int .i64 d]) : Sem Value).run Try.prog w = .ok (.bool (a == c && b == d)) w := by
  cases h : (a == c) <;> cases h2 : (b == d) <;> go_simp
theorem bs25_4 (a b c d : Int) (w : World) : (Instr.buildSlice 25 4 #[(0, .int .i64 a), (1, .int .i64 b), (2, .int .i64 c), (3, .int .i64 d)]).run Try.prog w = .ok (.slice (some ⟨w.heap.size, 0, none⟩) 4 4) (w.alloc (.cells #[.int .i64 a, .int .i64 b, .int .i64 c, .int .i64 d] 3)) := by
  kernel_rfl
section
variable {P : Program} {ops : Array Oper} {K : Act → World → Prop} {Kp : Nat → World → World → Prop} {fuel : Nat} {listed : Array Bool} {a : Act} {w : World} {i j d : Nat} {ty : TypeId} {pos : String} {aft : Array Edge} {gd : Option (Nat × Bool)}
theorem StepK.buildG {t : TypeId} {n : Nat} {parts : Array (Nat × Operand)} {ps : Array (Nat × Value)} {v : Value} {w' : World} (hi : ops[i]? = some ⟨some d, .buildSlice t n parts, ty, pos, aft, gd⟩)
    (hp : parts.map (fun (i, x) => (i, a.eval x)) = ps) (hv : (Instr.buildSlice t n ps).run P w = .ok v w') (hk : Kp i w w')
    (h : AnyK P ops K Kp fuel (listed.setIfInBounds i true) (a.put (some d) v) w') (hw : Region.wanted ⟨some d, .buildSlice t n parts, ty, pos, aft, gd⟩ (yielded ops a.tmps) = true := by rfl) : StepK P ops K Kp fuel listed a w i := by
  unfold StepK opG
  simp only [hi]
  rw [if_pos hw]
  simp only [Oper.wp, execOp, hp]; simp [hv, Oper.upon]; exact ⟨hk, h⟩
end
section
attribute [local irreducible] AnyK StepK
noncomputable def opsU6 : Array Oper := (Try.f16.body.bind (regionOf 6)).getD #[]
set_option maxRecDepth 10000 in
set_option maxHeartbeats 2000000 in
theorem regionU6 {F : Fence} {n : Nat} (hF : WideF F Try.prog) {Q : Exit → Act → World → Prop} {a : Act} {w : World} {p1 p3 : Nat} {vc vs vl vo vd : Value} (hsz : a.tmps.size = 91)
    (t1 : a.eval (.tmp 1) = .pointer (some ⟨p1, 0, none⟩)) (t2 : a.eval (.tmp 2) = .int .i64 0) (t3 : a.eval (.tmp 3) = .pointer (some ⟨p3, 0, none⟩)) (t4 : a.eval (.tmp 4) = .int .i64 0) (t5 : a.eval (.tmp 5) = vc) (t6 : a.eval (.tmp 6) = vs) (t7 : a.eval (.tmp 7) = .int .i64 0) (t8 : a.eval (.tmp 8) = vl) (t9 : a.eval (.tmp 9) = .int .i64 0) (t10 : a.eval (.tmp 10) = vo) (t11 : a.eval (.tmp 11) = vd) (t12 : a.eval (.tmp 12) = .int .i64 0)
    (m0 : w.cell? ⟨p1, 0, none⟩ = some (.int .i64 1)) (m1 : w.cell? ⟨p1, 1, none⟩ = some (.int .i64 2)) (m2 : w.cell? ⟨p3, 0, none⟩ = some (.int .i64 0)) (m3 : w.cell? ⟨p3, 1, none⟩ = some (.int .i64 7)) (hvc : RI w vc [0, 1, 2, 3]) (hvs : RI w vs [1, 2]) (hvl : RI w vl [4]) (hpr : ∀ A c W, Below w.heap.size w W → SalesAt W W.heap.size A fourL → Calls Try.prog 19 #[.agg #[.int .i64 4, .int .i64 10, .slice A fourL.length c], vo, vd] W fun e w' => e = .returned (.bool true) ∧ Below W.heap.size W w')
    (hK : ∀ a' W', Below w.heap.size w W' → a'.tmps.size = 91 → a'.defers = a.defers → a'.eval (.tmp 0) = .bool true → Q .normal a' W') :
    (Code.region 6 opsU6 true).wpIn F n Try.prog Q a w := by
  have hR : (fun w : World => w.cell? ⟨p1, 0, none⟩ = some (.int .i64 1) ∧ w.cell? ⟨p1, 1, none⟩ = some (.int .i64 2) ∧ w.cell? ⟨p3, 0, none⟩ = some (.int .i64 0) ∧ w.cell? ⟨p3, 1, none⟩ = some (.int .i64 7)) w.drew := ⟨m0, m1, m2, m3⟩
  have hB : Below w.heap.size w w.drew := (Below.refl _ _).drew
  refine region_K (KpR (fun w => w.cell? ⟨p1, 0, none⟩ = some (.int .i64 1) ∧ w.cell? ⟨p1, 1, none⟩ = some (.int .i64 2) ∧ w.cell? ⟨p3, 0, none⟩ = some (.int .i64 0) ∧ w.cell? ⟨p3, 1, none⟩ = some (.int .i64 7)) (fun _ => false)) hF (by kernel_rfl) Try.mixed ?_
  change AnyK _ _ _ _ 50 (Array.replicate 50 false) _ _
  generalize w.drew = W at *
  refine AnyK.move (i := 0) (may_of rfl (by kernel_rfl) (by kernel_rfl) (by kernel_rfl)) (v := .int .i64 0) (by simp [t2]) hR ?_
  refine AnyK.bin (i := 1) (may_of rfl (by kernel_rfl) (by kernel_rfl) (by kernel_rfl)) (u := .int .i64 0) (u' := .int .i64 (0)) (v := .bool true) (by simp [ev_same, hsz]) (by simp [ev_const]) (fun w => eql27T rfl w) hR ?_
  refine AnyK.move (i := 2) (may_of rfl (by kernel_rfl) (by kernel_rfl) (by kernel_rfl)) (v := .bool true) (by simp [ev_same, size_put, hsz]) hR ?_
  refine AnyK.load (i := 3) (may_of rfl (by kernel_rfl) (by kernel_rfl) (by kernel_rfl)) (p := ⟨p1, 0, none⟩) (v := .agg #[.int .i64 1, .int .i64 2]) (by simp [ev_ne, t1]) (fun w hw => ld46 ⟨hw.1, hw.2.1⟩) hR (hw := (by exact wanted_g (e := 44) (b' := true) rfl (by simp [ev_same, size_put, hsz]) rfl)) ?_
  refine AnyK.pick1 (i := 4) (by kernel_rfl) ?_
  refine StepK.call (i := 4) (f := 36) (vs := #[.int .i64 (1), .int .i64 (2)]) rfl (enters_of Try.func36 (by kernel_rfl) rfl) (by simp [ev_func]) (by simp [ev_const]) ((between_any 1 2 _).mono ?_) (hw := (by exact wanted_g (e := 44) (b' := true) rfl (by simp [ev_same, ev_ne, size_put, hsz]) rfl))
  rintro _ W4 ⟨rfl, hb4⟩
  refine ⟨_, rfl, (fun _ hw => ⟨(hb4.cell (block_lt_of_cell hw.1)).trans hw.1, (hb4.cell (block_lt_of_cell hw.2.1)).trans hw.2.1, (hb4.cell (block_lt_of_cell hw.2.2.1)).trans hw.2.2.1, (hb4.cell (block_lt_of_cell hw.2.2.2)).trans hw.2.2.2⟩), ?_⟩
  replace hR : (fun w : World => w.cell? ⟨p1, 0, none⟩ = some (.int .i64 1) ∧ w.cell? ⟨p1, 1, none⟩ = some (.int .i64 2) ∧ w.cell? ⟨p3, 0, none⟩ = some (.int .i64 0) ∧ w.cell? ⟨p3, 1, none⟩ = some (.int .i64 7)) W4 := ⟨(hb4.cell (block_lt_of_cell hR.1)).trans hR.1, (hb4.cell (block_lt_of_cell hR.2.1)).trans hR.2.1, (hb4.cell (block_lt_of_cell hR.2.2.1)).trans hR.2.2.1, (hb4.cell (block_lt_of_cell hR.2.2.2)).trans hR.2.2.2⟩
  replace hB := hB.trans (hb4.mono hB.size)
  clear hb4 W
  obtain ⟨W, rfl⟩ : ∃ W, W = W4 := ⟨_, rfl⟩
  refine AnyK.bin (i := 5) (may_of rfl (by kernel_rfl) (by kernel_rfl) (by kernel_rfl)) (u := .agg #[.int .i64 1, .int .i64 2]) (u' := .agg #[.int .i64 1, .int .i64 2]) (v := .bool true) (by simp [ev_same, ev_ne, size_put, hsz]) (by simp [ev_same, size_put, hsz]) (fun w => eql46 1 2 1 2 w) hR (hw := (by exact wanted_g (e := 44) (b' := true) rfl (by simp [ev_same, ev_ne, size_put, hsz]) rfl)) ?_
  refine AnyK.pick (i := 6) (may_of rfl (by kernel_rfl) (by kernel_rfl) (by kernel_rfl)) (b := true) (v := .bool true) (by simp [ev_same, ev_ne, size_put, hsz]) (by simp [ev_same, size_put, hsz]) hR ?_
  refine AnyK.move (i := 7) (may_of rfl (by kernel_rfl) (by kernel_rfl) (by kernel_rfl)) (v := .bool true) (by simp [ev_same, size_put, hsz]) hR ?_
  refine AnyK.move (i := 8) (may_of rfl (by kernel_rfl) (by kernel_rfl) (by kernel_rfl)) (v := .int .i64 0) (by simp [ev_ne, t4]) hR (hw := (by exact wanted_g (e := 49) (b' := true) rfl (by simp [ev_same, size_put, hsz]) rfl)) ?_
  refine AnyK.bin (i := 9) (may_of rfl (by kernel_rfl) (by kernel_rfl) (by kernel_rfl)) (u := .int .i64 0) (u' := .int .i64 (0)) (v := .bool true) (by simp [ev_same, size_put, hsz]) (by simp [ev_const]) (fun w => eql27T rfl w) hR (hw := (by exact wanted_g (e := 49) (b' := true) rfl (by simp [ev_same, ev_ne, size_put, hsz]) rfl)) ?_
  refine AnyK.pick (i := 10) (may_of rfl (by kernel_rfl) (by kernel_rfl) (by kernel_rfl)) (b := true) (v := .bool true) (by simp [ev_same, ev_ne, size_put, hsz]) (by simp [ev_same, size_put, hsz]) hR ?_
  refine AnyK.move (i := 11) (may_of rfl (by kernel_rfl) (by kernel_rfl) (by kernel_rfl)) (v := .bool true) (by simp [ev_same, size_put, hsz]) hR ?_
  refine AnyK.load (i := 12) (may_of rfl (by kernel_rfl) (by kernel_rfl) (by kernel_rfl)) (p := ⟨p3, 0, none⟩) (v := .agg #[.int .i64 0, .int .i64 7]) (by simp [ev_ne, t3]) (fun w hw => ld46 ⟨hw.2.2.1, hw.2.2.2⟩) hR (hw := (by exact wanted_g (e := 53) (b' := true) rfl (by simp [ev_same, size_put, hsz]) rfl)) ?_
  refine AnyK.pick1 (i := 13) (by kernel_rfl) ?_
  refine StepK.call (i := 13) (f := 36) (vs := #[.int .i64 (0), .int .i64 (7)]) rfl (enters_of Try.func36 (by kernel_rfl) rfl) (by simp [ev_func]) (by simp [ev_const]) ((between_any 0 7 _).mono ?_) (hw := (by exact wanted_g (e := 53) (b' := true) rfl (by simp [ev_same, ev_ne, size_put, hsz]) rfl))
  rintro _ W13 ⟨rfl, hb13⟩
  refine ⟨_, rfl, (fun _ hw => ⟨(hb13.cell (block_lt_of_cell hw.1)).trans hw.1, (hb13.cell (block_lt_of_cell hw.2.1)).trans hw.2.1, (hb13.cell (block_lt_of_cell hw.2.2.1)).trans hw.2.2.1, (hb13.cell (block_lt_of_cell hw.2.2.2)).trans hw.2.2.2⟩), ?_⟩
  replace hR : (fun w : World => w.cell? ⟨p1, 0, none⟩ = some (.int .i64 1) ∧ w.cell? ⟨p1, 1, none⟩ = some (.int .i64 2) ∧ w.cell? ⟨p3, 0, none⟩ = some (.int .i64 0) ∧ w.cell? ⟨p3, 1, none⟩ = some (.int .i64 7)) W13 := ⟨(hb13.cell (block_lt_of_cell hR.1)).trans hR.1, (hb13.cell (block_lt_of_cell hR.2.1)).trans hR.2.1, (hb13.cell (block_lt_of_cell hR.2.2.1)).trans hR.2.2.1, (hb13.cell (block_lt_of_cell hR.2.2.2)).trans hR.2.2.2⟩
  replace hB := hB.trans (hb13.mono hB.size)
  clear hb13 W
  obtain ⟨W, rfl⟩ : ∃ W, W = W13 := ⟨_, rfl⟩
  refine AnyK.bin (i := 14) (may_of rfl (by kernel_rfl) (by kernel_rfl) (by kernel_rfl)) (u := .agg #[.int .i64 0, .int .i64 7]) (u' := .agg #[.int .i64 0, .int .i64 7]) (v := .bool true) (by simp [ev_same, ev_ne, size_put, hsz]) (by simp [ev_same, size_put, hsz]) (fun w => eql46 0 7 0 7 w) hR (hw := (by exact wanted_g (e := 53) (b' := true) rfl (by simp [ev_same, ev_ne, size_put, hsz]) rfl)) ?_
  refine AnyK.pick (i := 15) (may_of rfl (by kernel_rfl) (by kernel_rfl) (by kernel_rfl)) (b := true) (v := .bool true) (by simp [ev_same, ev_ne, size_put, hsz]) (by simp [ev_same, size_put, hsz]) hR ?_
  refine AnyK.move (i := 16) (may_of rfl (by kernel_rfl) (by kernel_rfl) (by kernel_rfl)) (v := .bool true) (by simp [ev_same, size_put, hsz]) hR ?_
  refine AnyK.move (i := 17) (may_of rfl (by kernel_rfl) (by kernel_rfl) (by kernel_rfl)) (v := .int .i64 0) (by simp [ev_ne, t7]) hR (hw := (by exact wanted_g (e := 58) (b' := true) rfl (by simp [ev_same, size_put, hsz]) rfl)) ?_
  refine AnyK.bin (i := 18) (may_of rfl (by kernel_rfl) (by kernel_rfl) (by kernel_rfl)) (u := .int .i64 0) (u' := .int .i64 (0)) (v := .bool true) (by simp [ev_same, size_put, hsz]) (by simp [ev_const]) (fun w => eql27T rfl w) hR (hw := (by exact wanted_g (e := 58) (b' := true) rfl (by simp [ev_same, ev_ne, size_put, hsz]) rfl)) ?_
  refine AnyK.pick (i := 19) (may_of rfl (by kernel_rfl) (by kernel_rfl) (by kernel_rfl)) (b := true) (v := .bool true) (by simp [ev_same, ev_ne, size_put, hsz]) (by simp [ev_same, size_put, hsz]) hR ?_
  refine AnyK.move (i := 20) (may_of rfl (by kernel_rfl) (by kernel_rfl) (by kernel_rfl)) (v := .bool true) (by simp [ev_same, size_put, hsz]) hR ?_
  refine AnyK.move (i := 21) (may_of rfl (by kernel_rfl) (by kernel_rfl) (by kernel_rfl)) (v := vc) (by simp [ev_ne, t5]) hR (hw := (by exact wanted_g (e := 62) (b' := true) rfl (by simp [ev_same, size_put, hsz]) rfl)) ?_
  refine AnyK.pick1 (i := 22) (by kernel_rfl) ?_
  refine StepK.buildG (i := 22) (ps := #[(0, .int .i64 (0)), (1, .int .i64 (1)), (2, .int .i64 (2)), (3, .int .i64 (3))]) rfl (by simp [ev_const]) (bs25_4 _ _ _ _ _) (fun _ hw => ⟨cell_alloc_l _ hw.1, cell_alloc_l _ hw.2.1, cell_alloc_l _ hw.2.2.1, cell_alloc_l _ hw.2.2.2⟩) ?_ (hw := (by exact wanted_g (e := 62) (b' := true) rfl (by simp [ev_same, ev_ne, size_put, hsz]) rfl))
  have n22 := Whole.new W 3 #[.int .i64 (0), .int .i64 (1), .int .i64 (2), .int .i64 (3)]
  replace hR : (fun w : World => w.cell? ⟨p1, 0, none⟩ = some (.int .i64 1) ∧ w.cell? ⟨p1, 1, none⟩ = some (.int .i64 2) ∧ w.cell? ⟨p3, 0, none⟩ = some (.int .i64 0) ∧ w.cell? ⟨p3, 1, none⟩ = some (.int .i64 7)) (W.alloc (.cells #[.int .i64 (0), .int .i64 (1), .int .i64 (2), .int .i64 (3)] 3)) := ⟨cell_alloc_l _ hR.1, cell_alloc_l _ hR.2.1, cell_alloc_l _ hR.2.2.1, cell_alloc_l _ hR.2.2.2⟩
  replace hB := hB.alloc hB.size (.cells #[.int .i64 (0), .int .i64 (1), .int .i64 (2), .int .i64 (3)] 3)
  generalize hp22 : W.heap.size = p22 at *
  generalize W.alloc (.cells #[.int .i64 (0), .int .i64 (1), .int .i64 (2), .int .i64 (3)] 3) = W22 at *
  clear hp22 W
  obtain ⟨W, rfl⟩ : ∃ W, W = W22 := ⟨_, rfl⟩
  refine AnyK.pick1 (i := 23) (by kernel_rfl) ?_
  refine StepK.call (i := 23) (f := 25) (vs := #[vc, .slice (some ⟨p22, 0, none⟩) 4 4]) rfl (enters_of Try.func25 (by kernel_rfl) rfl) (by simp [ev_func]) (by simp [ev_same, ev_ne, size_put, hsz]) ((ints_lit [0, 1, 2, 3] (hvc.below hB) n22 (by decide) rfl).mono ?_) (hw := (by exact wanted_g (e := 62) (b' := true) rfl (by simp [ev_same, ev_ne, size_put, hsz]) rfl))
  rintro _ W23 ⟨rfl, hb23⟩
  refine ⟨_, rfl, (fun _ hw => ⟨(hb23.cell (block_lt_of_cell hw.1)).trans hw.1, (hb23.cell (block_lt_of_cell hw.2.1)).trans hw.2.1, (hb23.cell (block_lt_of_cell hw.2.2.1)).trans hw.2.2.1, (hb23.cell (block_lt_of_cell hw.2.2.2)).trans hw.2.2.2⟩), ?_⟩
  replace hR : (fun w : World => w.cell? ⟨p1, 0, none⟩ = some (.int .i64 1) ∧ w.cell? ⟨p1, 1, none⟩ = some (.int .i64 2) ∧ w.cell? ⟨p3, 0, none⟩ = some (.int .i64 0) ∧ w.cell? ⟨p3, 1, none⟩ = some (.int .i64 7)) W23 := ⟨(hb23.cell (block_lt_of_cell hR.1)).trans hR.1, (hb23.cell (block_lt_of_cell hR.2.1)).trans hR.2.1, (hb23.cell (block_lt_of_cell hR.2.2.1)).trans hR.2.2.1, (hb23.cell (block_lt_of_cell hR.2.2.2)).trans hR.2.2.2⟩
  replace hB := hB.trans (hb23.mono hB.size)
  clear n22
  clear hb23 W
  obtain ⟨W, rfl⟩ : ∃ W, W = W23 := ⟨_, rfl⟩
  refine AnyK.pick (i := 24) (may_of rfl (by kernel_rfl) (by kernel_rfl) (by kernel_rfl)) (b := true) (v := .bool true) (by simp [ev_same, ev_ne, size_put, hsz]) (by simp [ev_same, size_put, hsz]) hR ?_
  refine AnyK.move (i := 25) (may_of rfl (by kernel_rfl) (by kernel_rfl) (by kernel_rfl)) (v := .bool true) (by simp [ev_same, size_put, hsz]) hR ?_
  refine AnyK.move (i := 26) (may_of rfl (by kernel_rfl) (by kernel_rfl) (by kernel_rfl)) (v := vs) (by simp [ev_ne, t6]) hR (hw := (by exact wanted_g (e := 67) (b' := true) rfl (by simp [ev_same, size_put, hsz]) rfl)) ?_
  refine AnyK.pick1 (i := 27) (by kernel_rfl) ?_
  refine StepK.buildG (i := 27) (ps := #[(0, .int .i64 (1)), (1, .int .i64 (2))]) rfl (by simp [ev_const]) (bs25_2 _ _ _) (fun _ hw => ⟨cell_alloc_l _ hw.1, cell_alloc_l _ hw.2.1, cell_alloc_l _ hw.2.2.1, cell_alloc_l _ hw.2.2.2⟩) ?_ (hw := (by exact wanted_g (e := 67) (b' := true) rfl (by simp [ev_same, ev_ne, size_put, hsz]) rfl))
  have n27 := Whole.new W 3 #[.int .i64 (1), .int .i64 (2)]
  replace hR : (fun w : World => w.cell? ⟨p1, 0, none⟩ = some (.int .i64 1) ∧ w.cell? ⟨p1, 1, none⟩ = some (.int .i64 2) ∧ w.cell? ⟨p3, 0, none⟩ = some (.int .i64 0) ∧ w.cell? ⟨p3, 1, none⟩ = some (.int .i64 7)) (W.alloc (.cells #[.int .i64 (1), .int .i64 (2)] 3)) := ⟨cell_alloc_l _ hR.1, cell_alloc_l _ hR.2.1, cell_alloc_l _ hR.2.2.1, cell_alloc_l _ hR.2.2.2⟩
  replace hB := hB.alloc hB.size (.cells #[.int .i64 (1), .int .i64 (2)] 3)
  generalize hp27 : W.heap.size = p27 at *
  generalize W.alloc (.cells #[.int .i64 (1), .int .i64 (2)] 3) = W27 at *
  clear hp27 W
  obtain ⟨W, rfl⟩ : ∃ W, W = W27 := ⟨_, rfl⟩
  refine AnyK.pick1 (i := 28) (by kernel_rfl) ?_
  refine StepK.call (i := 28) (f := 25) (vs := #[vs, .slice (some ⟨p27, 0, none⟩) 2 2]) rfl (enters_of Try.func25 (by kernel_rfl) rfl) (by simp [ev_func]) (by simp [ev_same, ev_ne, size_put, hsz]) ((ints_lit [1, 2] (hvs.below hB) n27 (by decide) rfl).mono ?_) (hw := (by exact wanted_g (e := 67) (b' := true) rfl (by simp [ev_same, ev_ne, size_put, hsz]) rfl))
  rintro _ W28 ⟨rfl, hb28⟩
  refine ⟨_, rfl, (fun _ hw => ⟨(hb28.cell (block_lt_of_cell hw.1)).trans hw.1, (hb28.cell (block_lt_of_cell hw.2.1)).trans hw.2.1, (hb28.cell (block_lt_of_cell hw.2.2.1)).trans hw.2.2.1, (hb28.cell (block_lt_of_cell hw.2.2.2)).trans hw.2.2.2⟩), ?_⟩
  replace hR : (fun w : World => w.cell? ⟨p1, 0, none⟩ = some (.int .i64 1) ∧ w.cell? ⟨p1, 1, none⟩ = some (.int .i64 2) ∧ w.cell? ⟨p3, 0, none⟩ = some (.int .i64 0) ∧ w.cell? ⟨p3, 1, none⟩ = some (.int .i64 7)) W28 := ⟨(hb28.cell (block_lt_of_cell hR.1)).trans hR.1, (hb28.cell (block_lt_of_cell hR.2.1)).trans hR.2.1, (hb28.cell (block_lt_of_cell hR.2.2.1)).trans hR.2.2.1, (hb28.cell (block_lt_of_cell hR.2.2.2)).trans hR.2.2.2⟩
  replace hB := hB.trans (hb28.mono hB.size)
  clear n27
  clear hb28 W
  obtain ⟨W, rfl⟩ : ∃ W, W = W28 := ⟨_, rfl⟩
  refine AnyK.pick (i := 29) (may_of rfl (by kernel_rfl) (by kernel_rfl) (by kernel_rfl)) (b := true) (v := .bool true) (by simp [ev_same, ev_ne, size_put, hsz]) (by simp [ev_same, size_put, hsz]) hR ?_
  refine AnyK.move (i := 30) (may_of rfl (by kernel_rfl) (by kernel_rfl) (by kernel_rfl)) (v := .bool true) (by simp [ev_same, size_put, hsz]) hR ?_
  refine AnyK.move (i := 31) (may_of rfl (by kernel_rfl) (by kernel_rfl) (by kernel_rfl)) (v := .int .i64 0) (by simp [ev_ne, t9]) hR (hw := (by exact wanted_g (e := 72) (b' := true) rfl (by simp [ev_same, size_put, hsz]) rfl)) ?_
  refine AnyK.bin (i := 32) (may_of rfl (by kernel_rfl) (by kernel_rfl) (by kernel_rfl)) (u := .int .i64 0) (u' := .int .i64 (0)) (v := .bool true) (by simp [ev_same, size_put, hsz]) (by simp [ev_const]) (fun w => eql27T rfl w) hR (hw := (by exact wanted_g (e := 72) (b' := true) rfl (by simp [ev_same, ev_ne, size_put, hsz]) rfl)) ?_
  refine AnyK.pick (i := 33) (may_of rfl (by kernel_rfl) (by kernel_rfl) (by kernel_rfl)) (b := true) (v := .bool true) (by simp [ev_same, ev_ne, size_put, hsz]) (by simp [ev_same, size_put, hsz]) hR ?_
  refine AnyK.move (i := 34) (may_of rfl (by kernel_rfl) (by kernel_rfl) (by kernel_rfl)) (v := .bool true) (by simp [ev_same, size_put, hsz]) hR ?_
  refine AnyK.move (i := 35) (may_of rfl (by kernel_rfl) (by kernel_rfl) (by kernel_rfl)) (v := vl) (by simp [ev_ne, t8]) hR (hw := (by exact wanted_g (e := 76) (b' := true) rfl (by simp [ev_same, size_put, hsz]) rfl)) ?_
  refine AnyK.pick1 (i := 36) (by kernel_rfl) ?_
  refine StepK.buildG (i := 36) (ps := #[(0, .int .i64 (4))]) rfl (by simp [ev_const]) (bs25_1 _ _) (fun _ hw => ⟨cell_alloc_l _ hw.1, cell_alloc_l _ hw.2.1, cell_alloc_l _ hw.2.2.1, cell_alloc_l _ hw.2.2.2⟩) ?_ (hw := (by exact wanted_g (e := 76) (b' := true) rfl (by simp [ev_same, ev_ne, size_put, hsz]) rfl))
  have n36 := Whole.new W 3 #[.int .i64 (4)]
  replace hR : (fun w : World => w.cell? ⟨p1, 0, none⟩ = some (.int .i64 1) ∧ w.cell? ⟨p1, 1, none⟩ = some (.int .i64 2) ∧ w.cell? ⟨p3, 0, none⟩ = some (.int .i64 0) ∧ w.cell? ⟨p3, 1, none⟩ = some (.int .i64 7)) (W.alloc (.cells #[.int .i64 (4)] 3)) := ⟨cell_alloc_l _ hR.1, cell_alloc_l _ hR.2.1, cell_alloc_l _ hR.2.2.1, cell_alloc_l _ hR.2.2.2⟩
  replace hB := hB.alloc hB.size (.cells #[.int .i64 (4)] 3)
  generalize hp36 : W.heap.size = p36 at *
  generalize W.alloc (.cells #[.int .i64 (4)] 3) = W36 at *
  clear hp36 W
  obtain ⟨W, rfl⟩ : ∃ W, W = W36 := ⟨_, rfl⟩
  refine AnyK.pick1 (i := 37) (by kernel_rfl) ?_
  refine StepK.call (i := 37) (f := 25) (vs := #[vl, .slice (some ⟨p36, 0, none⟩) 1 1]) rfl (enters_of Try.func25 (by kernel_rfl) rfl) (by simp [ev_func]) (by simp [ev_same, ev_ne, size_put, hsz]) ((ints_lit [4] (hvl.below hB) n36 (by decide) rfl).mono ?_) (hw := (by exact wanted_g (e := 76) (b' := true) rfl (by simp [ev_same, ev_ne, size_put, hsz]) rfl))
  rintro _ W37 ⟨rfl, hb37⟩
  refine ⟨_, rfl, (fun _ hw => ⟨(hb37.cell (block_lt_of_cell hw.1)).trans hw.1, (hb37.cell (block_lt_of_cell hw.2.1)).trans hw.2.1, (hb37.cell (block_lt_of_cell hw.2.2.1)).trans hw.2.2.1, (hb37.cell (block_lt_of_cell hw.2.2.2)).trans hw.2.2.2⟩), ?_⟩
  replace hR : (fun w : World => w.cell? ⟨p1, 0, none⟩ = some (.int .i64 1) ∧ w.cell? ⟨p1, 1, none⟩ = some (.int .i64 2) ∧ w.cell? ⟨p3, 0, none⟩ = some (.int .i64 0) ∧ w.cell? ⟨p3, 1, none⟩ = some (.int .i64 7)) W37 := ⟨(hb37.cell (block_lt_of_cell hR.1)).trans hR.1, (hb37.cell (block_lt_of_cell hR.2.1)).trans hR.2.1, (hb37.cell (block_lt_of_cell hR.2.2.1)).trans hR.2.2.1, (hb37.cell (block_lt_of_cell hR.2.2.2)).trans hR.2.2.2⟩
  replace hB := hB.trans (hb37.mono hB.size)
  clear n36
  clear hb37 W
  obtain ⟨W, rfl⟩ : ∃ W, W = W37 := ⟨_, rfl⟩
  refine AnyK.pick (i := 38) (may_of rfl (by kernel_rfl) (by kernel_rfl) (by kernel_rfl)) (b := true) (v := .bool true) (by simp [ev_same, ev_ne, size_put, hsz]) (by simp [ev_same, size_put, hsz]) hR ?_
  refine AnyK.move (i := 39) (may_of rfl (by kernel_rfl) (by kernel_rfl) (by kernel_rfl)) (v := .bool true) (by simp [ev_same, size_put, hsz]) hR ?_
  refine AnyK.move (i := 40) (may_of rfl (by kernel_rfl) (by kernel_rfl) (by kernel_rfl)) (v := .int .i64 0) (by simp [ev_ne, t12]) hR (hw := (by exact wanted_g (e := 81) (b' := true) rfl (by simp [ev_same, size_put, hsz]) rfl)) ?_
  refine AnyK.bin (i := 41) (may_of rfl (by kernel_rfl) (by kernel_rfl) (by kernel_rfl)) (u := .int .i64 0) (u' := .int .i64 (0)) (v := .bool true) (by simp [ev_same, size_put, hsz]) (by simp [ev_const]) (fun w => eql27T rfl w) hR (hw := (by exact wanted_g (e := 81) (b' := true) rfl (by simp [ev_same, ev_ne, size_put, hsz]) rfl)) ?_
  refine AnyK.pick (i := 42) (may_of rfl (by kernel_rfl) (by kernel_rfl) (by kernel_rfl)) (b := true) (v := .bool true) (by simp [ev_same, ev_ne, size_put, hsz]) (by simp [ev_same, size_put, hsz]) hR ?_
  refine AnyK.move (i := 43) (may_of rfl (by kernel_rfl) (by kernel_rfl) (by kernel_rfl)) (v := .bool true) (by simp [ev_same, size_put, hsz]) hR ?_
  refine AnyK.move (i := 45) (may_of rfl (by kernel_rfl) (by kernel_rfl) (by kernel_rfl)) (v := vo) (by simp [ev_ne, t10]) hR (hw := (by exact wanted_g (e := 85) (b' := true) rfl (by simp [ev_same, size_put, hsz]) rfl)) ?_
  refine AnyK.move (i := 46) (may_of rfl (by kernel_rfl) (by kernel_rfl) (by kernel_rfl)) (v := vd) (by simp [ev_ne, t11]) hR (hw := (by exact wanted_g (e := 85) (b' := true) rfl (by simp [ev_same, ev_ne, size_put, hsz]) rfl)) ?_
  refine AnyK.pick1 (i := 44) (by kernel_rfl) ?_
  refine StepK.call (i := 44) (f := 35) (vs := #[.slice none 0 0]) rfl (enters_of Try.func35 (by kernel_rfl) rfl) (by simp [ev_func]) (by simp [ev_const]) ((four_nil _).mono ?_) (hw := (by exact wanted_g (e := 85) (b' := true) rfl (by simp [ev_same, ev_ne, size_put, hsz]) rfl))
  rintro _ W44 ⟨A44, c44, rfl, hs44, hb44⟩
  refine ⟨_, rfl, (fun _ hw => ⟨(hb44.cell (block_lt_of_cell hw.1)).trans hw.1, (hb44.cell (block_lt_of_cell hw.2.1)).trans hw.2.1, (hb44.cell (block_lt_of_cell hw.2.2.1)).trans hw.2.2.1, (hb44.cell (block_lt_of_cell hw.2.2.2)).trans hw.2.2.2⟩), ?_⟩
  replace hR : (fun w : World => w.cell? ⟨p1, 0, none⟩ = some (.int .i64 1) ∧ w.cell? ⟨p1, 1, none⟩ = some (.int .i64 2) ∧ w.cell? ⟨p3, 0, none⟩ = some (.int .i64 0) ∧ w.cell? ⟨p3, 1, none⟩ = some (.int .i64 7)) W44 := ⟨(hb44.cell (block_lt_of_cell hR.1)).trans hR.1, (hb44.cell (block_lt_of_cell hR.2.1)).trans hR.2.1, (hb44.cell (block_lt_of_cell hR.2.2.1)).trans hR.2.2.1, (hb44.cell (block_lt_of_cell hR.2.2.2)).trans hR.2.2.2⟩
  replace hB := hB.trans (hb44.mono hB.size)
  clear hb44 W
  obtain ⟨W, rfl⟩ : ∃ W, W = W44 := ⟨_, rfl⟩
  refine AnyK.pick1 (i := 47) (by kernel_rfl) ?_
  refine StepK.call (i := 47) (f := 19) (vs := #[.agg #[.int .i64 4, .int .i64 10, .slice A44 fourL.length c44], vo, vd]) rfl (enters_of Try.func19 (by kernel_rfl) rfl) (by simp [ev_func]) (by simp [ev_same, ev_ne, size_put, hsz]) ((hpr A44 c44 W hB hs44).mono ?_) (hw := (by exact wanted_g (e := 85) (b' := true) rfl (by simp [ev_same, ev_ne, size_put, hsz]) rfl))
  rintro _ W47 ⟨rfl, hb47⟩
  refine ⟨_, rfl, (fun _ hw => ⟨(hb47.cell (block_lt_of_cell hw.1)).trans hw.1, (hb47.cell (block_lt_of_cell hw.2.1)).trans hw.2.1, (hb47.cell (block_lt_of_cell hw.2.2.1)).trans hw.2.2.1, (hb47.cell (block_lt_of_cell hw.2.2.2)).trans hw.2.2.2⟩), ?_⟩
  replace hR : (fun w : World => w.cell? ⟨p1, 0, none⟩ = some (.int .i64 1) ∧ w.cell? ⟨p1, 1, none⟩ = some (.int .i64 2) ∧ w.cell? ⟨p3, 0, none⟩ = some (.int .i64 0) ∧ w.cell? ⟨p3, 1, none⟩ = some (.int .i64 7)) W47 := ⟨(hb47.cell (block_lt_of_cell hR.1)).trans hR.1, (hb47.cell (block_lt_of_cell hR.2.1)).trans hR.2.1, (hb47.cell (block_lt_of_cell hR.2.2.1)).trans hR.2.2.1, (hb47.cell (block_lt_of_cell hR.2.2.2)).trans hR.2.2.2⟩
  replace hB := hB.trans (hb47.mono hB.size)
  clear hs44
  clear hb47 W
  obtain ⟨W, rfl⟩ : ∃ W, W = W47 := ⟨_, rfl⟩
  refine AnyK.pick (i := 48) (may_of rfl (by kernel_rfl) (by kernel_rfl) (by kernel_rfl)) (b := true) (v := .bool true) (by simp [ev_same, ev_ne, size_put, hsz]) (by simp [ev_same, size_put, hsz]) hR ?_
  refine AnyK.assign (i := 49) (may_of rfl (by kernel_rfl) (by kernel_rfl) (by kernel_rfl)) (v := .bool true) (by simp [ev_same, size_put, hsz]) hR ?_
  refine AnyK.done (by kernel_rfl) (hK _ _ hB ?_ ?_ ?_)
  · simp only [size_put, hsz]
  · simp only [defers_put]
  · exact (by simp [ev_same, size_put, hsz])

end
end Go.Proofs.Ytfcnombmphophaa

/-! Qd: wakes: the document's first examples. -/
namespace Go.Proofs.Ytfcnombmphophaa
open Go.RowKit Go.Shelf
set_option maxRecDepth 100000 in
theorem wk_when {A : Option Addr} {c : Nat} {W : World} (hs : SalesAt W W.heap.size A fourL) : Calls Try.prog 29 #[.agg #[.int .i64 4, .int .i64 10, .slice A fourL.length c], .int .i64 0] W fun e w' => e = .returned (.tuple #[.agg #[.int .i64 1, .int .i64 2], .int .i64 0]) ∧ Below W.heap.size W w' := by
  have h := when_any 4 10 A fourL c 0 W (by decide) hs
  unfold WP at h
  rw [show whenV 4 10 fourL 0 = (1, 2) by decide +kernel, show whenE 4 10 fourL 0 = 0 by decide +kernel] at h
  exact h
set_option maxRecDepth 100000 in
theorem wk_holds {A : Option Addr} {c : Nat} {W : World} (hs : SalesAt W W.heap.size A fourL) : Calls Try.prog 32 #[.agg #[.int .i64 4, .int .i64 10, .slice A fourL.length c], .int .i64 3, .int .i64 4] W fun e w' => e = .returned (.tuple #[.agg #[.int .i64 0, .int .i64 7], .int .i64 0]) ∧ Below W.heap.size W w' := by
  have h := holds_api 4 10 A fourL c 3 4 W (by decide) hs
  unfold DP at h
  rw [show holdsV 4 10 fourL 3 4 = (0, 7) by decide +kernel, show holdsE 4 10 fourL 3 4 = 0 by decide +kernel] at h
  exact h
theorem RM.ri {W0 W : World} {ve vs : Value} {xe xs : List Int} (h : RM W0 ve vs xe xs W) : RI W ve xe ∧ RI W vs xs := ⟨OL.ints ⟨h.low, h.oe⟩, OL.ints ⟨h.low, h.os⟩⟩
set_option maxRecDepth 100000 in
theorem wk_reach {A : Option Addr} {c : Nat} {W : World} (hs : SalesAt W W.heap.size A fourL) : Calls Try.prog 33 #[.agg #[.int .i64 4, .int .i64 10, .slice A fourL.length c], .int .i64 2] W fun e w' => ∃ vc vs, e = .returned (.tuple #[vc, vs, .int .i64 0]) ∧ RI w' vc [0, 1, 2, 3] ∧ RI w' vs [1, 2] ∧ Below W.heap.size W w' := by
  refine (reach_any 4 10 A fourL c 2 W (by decide) hs).mono ?_
  rintro e w' ⟨ve, vs, rfl, h⟩
  rw [show reachE 4 10 fourL 2 = 0 by decide +kernel]
  rw [show reachC 4 10 fourL 2 = [0, 1, 2, 3] by decide +kernel, show reachS 4 10 fourL 2 = [1, 2] by decide +kernel] at h
  exact ⟨ve, vs, rfl, h.ri.1, h.ri.2, h.low⟩
def fiveL : List Sale := fourL ++ [⟨1, 0, 3, 1, 1⟩]
theorem four_five (b : Nat) (W : World) (h : Whole W b 61 (saleC ⟨1, 0, 3, 1, 1⟩)) : Calls Try.prog 35 #[.slice (some ⟨b, 0, none⟩) 1 1] W (QP W fiveL) := four_one _ b W h
set_option maxRecDepth 100000 in
theorem wk_blame {A : Option Addr} {c : Nat} {W : World} (hs : SalesAt W W.heap.size A fiveL) : Calls Try.prog 24 #[.agg #[.int .i64 4, .int .i64 10, .slice A fiveL.length c]] W fun e w' => ∃ vl, e = .returned (.tuple #[vl, .int .i64 0]) ∧ RI w' vl [4] ∧ Below W.heap.size W w' := by
  refine (blame_any 4 10 A _ c W (by decide) hs).mono ?_
  rintro e w' ⟨v, rfl, h, hb⟩
  rw [show fault 4 10 fiveL = 0 by decide +kernel]
  rw [show blameV 4 10 fiveL = [4] by decide +kernel] at h
  exact ⟨v, rfl, h, hb⟩
set_option maxRecDepth 100000 in
theorem wk_order {A : Option Addr} {c : Nat} {W : World} (hs : SalesAt W W.heap.size A fourL) : Calls Try.prog 23 #[.agg #[.int .i64 4, .int .i64 10, .slice A fourL.length c]] W fun e w' => ∃ vo vd xs ds, e = .returned (.tuple #[vo, vd, .int .i64 0]) ∧ RI w' vo xs ∧ RI w' vd ds ∧ proveB 4 10 fourL xs ds = true ∧ Below W.heap.size W w' := by
  have h0 : triedE 4 10 fourL true = 0 := by decide +kernel
  have hl : fourL.length ≤ 1000000 := by decide
  have h := order_any 4 10 A fourL c W hl hs
  generalize fourL = L at *
  refine h.mono ?_
  rintro e w' ⟨v1, v2, xs, ds, he, r1, r2, ho, hb⟩
  have hp := order_prove h0 ho
  clear ho
  exact ⟨v1, v2, xs, ds, by rw [he, h0], r1, r2, hp, hb⟩
theorem wk_prove {A : Option Addr} {c : Nat} {W W0 : World} {vo vd : Value} {xs ds : List Int} (h1 : RI W0 vo xs) (h2 : RI W0 vd ds) (hp : proveB 4 10 fourL xs ds = true) (hb : Below W0.heap.size W0 W) (hs : SalesAt W W.heap.size A fourL) :
    Calls Try.prog 19 #[.agg #[.int .i64 4, .int .i64 10, .slice A fourL.length c], vo, vd] W fun e w' => e = .returned (.bool true) ∧ Below W.heap.size W w' := by
  obtain ⟨A1, c1, rfl, _, i1⟩ := h1.below hb
  obtain ⟨A2, c2, rfl, _, i2⟩ := h2.below hb
  have h := prove_any 4 10 A A1 A2 fourL c c1 c2 xs ds W (by decide) hs i1 i2
  rw [hp] at h
  exact h
theorem sa46 {w : World} {x y : Int} : (Instr.storeAt 46 (.pointer (some ⟨w.heap.size, 0, none⟩)) (.agg #[.int .i64 x, .int .i64 y])).run Try.prog (w.alloc (.cells #[.int .i64 0, .int .i64 0] 46)) = .ok () (((w.alloc (.cells #[.int .i64 0, .int .i64 0] 46)).setCell ⟨w.heap.size, 0, none⟩ (.int .i64 x)).setCell ⟨w.heap.size, 1, none⟩ (.int .i64 y)) := by
  have h := Whole.new w 46 #[.int .i64 0, .int .i64 0]
  exact st46 (h.cell 0) (h.cell 1) (h.frozen 0) (h.frozen 1)
theorem put46 (w : World) (x y : Int) : Whole (((w.alloc (.cells #[.int .i64 0, .int .i64 0] 46)).setCell ⟨w.heap.size, 0, none⟩ (.int .i64 x)).setCell ⟨w.heap.size, 1, none⟩ (.int .i64 y)) w.heap.size 46 #[.int .i64 x, .int .i64 y] ∧
    Below w.heap.size w (((w.alloc (.cells #[.int .i64 0, .int .i64 0] 46)).setCell ⟨w.heap.size, 0, none⟩ (.int .i64 x)).setCell ⟨w.heap.size, 1, none⟩ (.int .i64 y)) :=
  ⟨((Whole.new w 46 #[.int .i64 0, .int .i64 0]).set 0 (.int .i64 x)).set 1 (.int .i64 y), (((Below.refl _ w).alloc (Nat.le_refl _) _).setCell (p := ⟨w.heap.size, 0, none⟩) (Nat.le_refl _) _).setCell (p := ⟨w.heap.size, 1, none⟩) (Nat.le_refl _) _⟩
theorem bs29_1v (s : Sale) (w : World) : (Instr.buildSlice 29 1 #[(0, saleV s)]).run Try.prog w = .ok (.slice (some ⟨w.heap.size, 0, none⟩) 1 1) (w.alloc (.cells (saleC s) 61)) := by
  kernel_rfl
theorem ex3_0 (u v x : Value) (w : World) : (Instr.extract (.tuple #[u, v, x]) 0).run Try.prog w = .ok u w := by
  go_simp
theorem ex3_1 (u v x : Value) (w : World) : (Instr.extract (.tuple #[u, v, x]) 1).run Try.prog w = .ok v w := by
  go_simp
theorem ex3_2 (u v x : Value) (w : World) : (Instr.extract (.tuple #[u, v, x]) 2).run Try.prog w = .ok x w := by
  go_simp

noncomputable def opsU0 : Array Oper := (Try.f16.body.bind (regionOf 0)).getD #[]
noncomputable def opsU1 : Array Oper := (Try.f16.body.bind (regionOf 1)).getD #[]
noncomputable def opsU2 : Array Oper := (Try.f16.body.bind (regionOf 2)).getD #[]
noncomputable def opsU3 : Array Oper := (Try.f16.body.bind (regionOf 3)).getD #[]
noncomputable def opsU4 : Array Oper := (Try.f16.body.bind (regionOf 4)).getD #[]
noncomputable def opsU5 : Array Oper := (Try.f16.body.bind (regionOf 5)).getD #[]
noncomputable def code16 : Code := .seq (.region 0 opsU0 false) (.seq (.region 1 opsU1 false) (.seq (.region 2 opsU2 false) (.seq (.region 3 opsU3 false) (.seq (.region 4 opsU4 false) (.seq (.region 5 opsU5 false) (.seq (.region 6 opsU6 true) .ret))))))
theorem body16 : Try.f16.body = some code16 := by kernel_rfl

set_option maxRecDepth 10000 in
set_option maxHeartbeats 2000000 in
theorem wakes_any (W : World) : Calls Try.prog 16 #[] W fun e w' => e = .returned (.bool true) ∧ Below W.heap.size W w' := by
  refine (callsIn_wide (n := 5)).1 (callsIn_of_wp Try.func16 body16 trivial ?_ rfl)
  obtain ⟨a, ha⟩ : ∃ a : Act, a = { tmps := #[] ++ Array.replicate (Try.f16.ntmps - (#[] : Array Value).size) undef, defers := [] } := ⟨_, rfl⟩
  have hsz : a.tmps.size = 91 := by rw [ha]; simp [Try.ntmps16]
  have hdf : a.defers = [] := by rw [ha]
  rw [← ha]
  clear ha
  unfold code16
  refine wpIn_seq (region_l 1 (wideF_plain _) (by kernel_rfl) (by kernel_rfl) ?_)
  intro K hK
  refine ListK.assign (i := 0) (v := .bool false) rfl (by simp [ev_const]) ?_
  refine ListK.done (hK _ _ ?_)
  clear hK K
  generalize hA : Act.put _ _ _ = a0
  have hz_a0 : a0.tmps.size = 91 := by rw [← hA]; simp only [size_put, hsz]
  have hd_a0 : a0.defers = [] := by rw [← hA]; simp only [defers_put, hdf]
  clear hA
  refine wpIn_seq (region_l 8 (wideF_plain _) (by kernel_rfl) (by kernel_rfl) ?_)
  intro K hK
  refine ListK.call (i := 0) (vs := #[.slice none 0 0]) rfl (enters_of Try.func35 (by kernel_rfl) rfl) (by simp [ev_const]) (((four_nil W)).mono ?_)
  rintro _ W1 ⟨A, c, rfl, hs, hb1⟩
  refine ⟨_, rfl, ?_⟩
  refine ListK.call (i := 1) (vs := #[.agg #[.int .i64 4, .int .i64 10, .slice A fourL.length c], .int .i64 0]) rfl (enters_of Try.func29 (by kernel_rfl) rfl) (by simp [ev_same, ev_const, hz_a0]) (((wk_when hs)).mono ?_)
  rintro _ W2 ⟨rfl, hb2⟩
  refine ⟨_, rfl, ?_⟩
  refine ListK.move (i := 2) (v := .tuple #[.agg #[.int .i64 1, .int .i64 2], .int .i64 0]) rfl (by simp [ev_same, size_put, hz_a0]) ?_
  refine ListK.extract (i := 3) (u := .tuple #[.agg #[.int .i64 1, .int .i64 2], .int .i64 0]) (v := .agg #[.int .i64 1, .int .i64 2]) rfl (by simp [ev_same, size_put, hz_a0]) (ex0 _ _ _) ?_
  refine ListK.extract (i := 4) (u := .tuple #[.agg #[.int .i64 1, .int .i64 2], .int .i64 0]) (v := .int .i64 0) rfl (by simp [ev_same, ev_ne, size_put, hz_a0]) (ex1 _ _ _) ?_
  refine ListK.alloc (i := 5) rfl (al46 W2) ?_
  refine ListK.store (i := 6) (u := .pointer (some ⟨W2.heap.size, 0, none⟩)) (u' := .agg #[.int .i64 1, .int .i64 2]) rfl (by simp [ev_same, size_put, hz_a0]) (by simp [ev_same, ev_ne, size_put, hz_a0]) sa46 ?_
  refine ListK.assign (i := 7) (v := .int .i64 0) rfl (by simp [ev_same, ev_ne, size_put, hz_a0]) ?_
  refine ListK.done (hK _ _ ?_)
  clear hK K
  have hB1 : Below W.heap.size W W2 := hb1.trans (hb2.mono hb1.size)
  obtain ⟨w1, hb3⟩ := put46 W2 1 2
  have hB2 := hB1.trans (hb3.mono hB1.size)
  generalize W2.heap.size = p1 at *
  generalize ((W2.alloc (.cells #[.int .i64 0, .int .i64 0] 46)).setCell ⟨p1, 0, none⟩ (.int .i64 1)).setCell ⟨p1, 1, none⟩ (.int .i64 2) = W3 at *
  generalize hA : Act.put _ _ _ = a1
  have hz_a1 : a1.tmps.size = 91 := by rw [← hA]; simp only [size_put, hz_a0]
  have u1 : a1.eval (.tmp 1) = .pointer (some ⟨p1, 0, none⟩) := by rw [← hA]; exact (by simp [ev_same, ev_ne, size_put, hz_a0])
  have u2 : a1.eval (.tmp 2) = .int .i64 0 := by rw [← hA]; exact (by simp [ev_same, size_put, hz_a0])
  have hd_a1 : a1.defers = [] := by rw [← hA]; simp only [defers_put, hd_a0]
  clear hA
  clear hb1 hb2 hb3 hB1 hs A c W1 W2
  refine wpIn_seq (region_l 8 (wideF_plain _) (by kernel_rfl) (by kernel_rfl) ?_)
  intro K hK
  refine ListK.call (i := 0) (vs := #[.slice none 0 0]) rfl (enters_of Try.func35 (by kernel_rfl) rfl) (by simp [ev_const]) (((four_nil W3)).mono ?_)
  rintro _ W4 ⟨A, c, rfl, hs, hb1⟩
  refine ⟨_, rfl, ?_⟩
  refine ListK.call (i := 1) (vs := #[.agg #[.int .i64 4, .int .i64 10, .slice A fourL.length c], .int .i64 3, .int .i64 4]) rfl (enters_of Try.func32 (by kernel_rfl) rfl) (by simp [ev_same, ev_const, hz_a1]) (((wk_holds hs)).mono ?_)
  rintro _ W5 ⟨rfl, hb2⟩
  refine ⟨_, rfl, ?_⟩
  refine ListK.move (i := 2) (v := .tuple #[.agg #[.int .i64 0, .int .i64 7], .int .i64 0]) rfl (by simp [ev_same, size_put, hz_a1]) ?_
  refine ListK.extract (i := 3) (u := .tuple #[.agg #[.int .i64 0, .int .i64 7], .int .i64 0]) (v := .agg #[.int .i64 0, .int .i64 7]) rfl (by simp [ev_same, size_put, hz_a1]) (ex0 _ _ _) ?_
  refine ListK.extract (i := 4) (u := .tuple #[.agg #[.int .i64 0, .int .i64 7], .int .i64 0]) (v := .int .i64 0) rfl (by simp [ev_same, ev_ne, size_put, hz_a1]) (ex1 _ _ _) ?_
  refine ListK.alloc (i := 5) rfl (al46 W5) ?_
  refine ListK.store (i := 6) (u := .pointer (some ⟨W5.heap.size, 0, none⟩)) (u' := .agg #[.int .i64 0, .int .i64 7]) rfl (by simp [ev_same, size_put, hz_a1]) (by simp [ev_same, ev_ne, size_put, hz_a1]) sa46 ?_
  refine ListK.assign (i := 7) (v := .int .i64 0) rfl (by simp [ev_same, ev_ne, size_put, hz_a1]) ?_
  refine ListK.done (hK _ _ ?_)
  clear hK K
  have hB1 : Below W3.heap.size W3 W5 := hb1.trans (hb2.mono hb1.size)
  obtain ⟨w3, hb3⟩ := put46 W5 0 7
  have hB3 := hB1.trans (hb3.mono hB1.size)
  replace w1 := w1.below hB3 w1.lt
  replace hB2 := hB2.trans (hB3.mono hB2.size)
  generalize W5.heap.size = p3 at *
  generalize ((W5.alloc (.cells #[.int .i64 0, .int .i64 0] 46)).setCell ⟨p3, 0, none⟩ (.int .i64 0)).setCell ⟨p3, 1, none⟩ (.int .i64 7) = W6 at *
  generalize hA : Act.put _ _ _ = a2
  have hz_a2 : a2.tmps.size = 91 := by rw [← hA]; simp only [size_put, hz_a1]
  have v1 : a2.eval (.tmp 1) = .pointer (some ⟨p1, 0, none⟩) := by rw [← hA]; exact (by simp [ev_ne, u1])
  have v2 : a2.eval (.tmp 2) = .int .i64 0 := by rw [← hA]; exact (by simp [ev_ne, u2])
  have v3 : a2.eval (.tmp 3) = .pointer (some ⟨p3, 0, none⟩) := by rw [← hA]; exact (by simp [ev_same, ev_ne, size_put, hz_a1])
  have v4 : a2.eval (.tmp 4) = .int .i64 0 := by rw [← hA]; exact (by simp [ev_same, size_put, hz_a1])
  have hd_a2 : a2.defers = [] := by rw [← hA]; simp only [defers_put, hd_a1]
  clear hA
  clear hb1 hb2 hb3 hB1 hB3 hs A c W3 W4 W5
  refine wpIn_seq (region_l 9 (wideF_plain _) (by kernel_rfl) (by kernel_rfl) ?_)
  intro K hK
  refine ListK.call (i := 0) (vs := #[.slice none 0 0]) rfl (enters_of Try.func35 (by kernel_rfl) rfl) (by simp [ev_const]) (((four_nil W6)).mono ?_)
  rintro _ W7 ⟨A, c, rfl, hs, hb1⟩
  refine ⟨_, rfl, ?_⟩
  refine ListK.call (i := 1) (vs := #[.agg #[.int .i64 4, .int .i64 10, .slice A fourL.length c], .int .i64 2]) rfl (enters_of Try.func33 (by kernel_rfl) rfl) (by simp [ev_same, ev_const, hz_a2]) (((wk_reach hs)).mono ?_)
  rintro _ W8 ⟨vc, vs, rfl, hvc, hvs, hb2⟩
  refine ⟨_, rfl, ?_⟩
  refine ListK.move (i := 2) (v := .tuple #[vc, vs, .int .i64 0]) rfl (by simp [ev_same, size_put, hz_a2]) ?_
  refine ListK.extract (i := 3) (u := .tuple #[vc, vs, .int .i64 0]) (v := vc) rfl (by simp [ev_same, size_put, hz_a2]) (ex3_0 _ _ _ _) ?_
  refine ListK.extract (i := 4) (u := .tuple #[vc, vs, .int .i64 0]) (v := vs) rfl (by simp [ev_same, ev_ne, size_put, hz_a2]) (ex3_1 _ _ _ _) ?_
  refine ListK.extract (i := 5) (u := .tuple #[vc, vs, .int .i64 0]) (v := .int .i64 0) rfl (by simp [ev_same, ev_ne, size_put, hz_a2]) (ex3_2 _ _ _ _) ?_
  refine ListK.assign (i := 6) (v := vc) rfl (by simp [ev_same, ev_ne, size_put, hz_a2]) ?_
  refine ListK.assign (i := 7) (v := vs) rfl (by simp [ev_same, ev_ne, size_put, hz_a2]) ?_
  refine ListK.assign (i := 8) (v := .int .i64 0) rfl (by simp [ev_same, ev_ne, size_put, hz_a2]) ?_
  refine ListK.done (hK _ _ ?_)
  clear hK K
  have hB3 : Below W6.heap.size W6 W8 := hb1.trans (hb2.mono hb1.size)
  replace w1 := w1.below hB3 w1.lt
  replace w3 := w3.below hB3 w3.lt
  replace hB2 := hB2.trans (hB3.mono hB2.size)
  generalize hA : Act.put _ _ _ = a3
  have hz_a3 : a3.tmps.size = 91 := by rw [← hA]; simp only [size_put, hz_a2]
  have q1 : a3.eval (.tmp 1) = .pointer (some ⟨p1, 0, none⟩) := by rw [← hA]; exact (by simp [ev_ne, v1])
  have q2 : a3.eval (.tmp 2) = .int .i64 0 := by rw [← hA]; exact (by simp [ev_ne, v2])
  have q3 : a3.eval (.tmp 3) = .pointer (some ⟨p3, 0, none⟩) := by rw [← hA]; exact (by simp [ev_ne, v3])
  have q4 : a3.eval (.tmp 4) = .int .i64 0 := by rw [← hA]; exact (by simp [ev_ne, v4])
  have q5 : a3.eval (.tmp 5) = vc := by rw [← hA]; exact (by simp [ev_same, ev_ne, size_put, hz_a2])
  have q6 : a3.eval (.tmp 6) = vs := by rw [← hA]; exact (by simp [ev_same, ev_ne, size_put, hz_a2])
  have q7 : a3.eval (.tmp 7) = .int .i64 0 := by rw [← hA]; exact (by simp [ev_same, size_put, hz_a2])
  have hd_a3 : a3.defers = [] := by rw [← hA]; simp only [defers_put, hd_a2]
  clear hA
  clear hb1 hb2 hB3 hs A c W6 W7
  refine wpIn_seq (region_l 9 (wideF_plain _) (by kernel_rfl) (by kernel_rfl) ?_)
  intro K hK
  refine ListK.call (i := 0) (vs := #[.int .i64 1, .int .i64 0, .int .i64 3, .int .i64 1, .int .i64 1]) rfl (enters_of Try.func37 (by kernel_rfl) rfl) (by simp [ev_const]) (((mksale_any _ _ _ _ _ W8)).mono ?_)
  rintro _ W9 ⟨rfl, hb0⟩
  refine ⟨_, rfl, ?_⟩
  refine ListK.bsl (i := 1) (ps := #[(0, saleV ⟨1, 0, 3, 1, 1⟩)]) (v := .slice (some ⟨W9.heap.size, 0, none⟩) 1 1) rfl (by simp [ev_same, hz_a3]) (bs29_1v _ W9) ?_
  refine ListK.call (i := 2) (vs := #[.slice (some ⟨W9.heap.size, 0, none⟩) 1 1]) rfl (enters_of Try.func35 (by kernel_rfl) rfl) (by simp [ev_same, size_put, hz_a3]) (((four_five W9.heap.size _ (Whole.new W9 61 _))).mono ?_)
  rintro _ W10 ⟨A, c, rfl, hs, hb1⟩
  refine ⟨_, rfl, ?_⟩
  refine ListK.call (i := 3) (vs := #[.agg #[.int .i64 4, .int .i64 10, .slice A fiveL.length c]]) rfl (enters_of Try.func24 (by kernel_rfl) rfl) (by simp [ev_same, size_put, hz_a3]) (((wk_blame hs)).mono ?_)
  rintro _ W11 ⟨vl, rfl, hvl, hb2⟩
  refine ⟨_, rfl, ?_⟩
  refine ListK.move (i := 4) (v := .tuple #[vl, .int .i64 0]) rfl (by simp [ev_same, size_put, hz_a3]) ?_
  refine ListK.extract (i := 5) (u := .tuple #[vl, .int .i64 0]) (v := vl) rfl (by simp [ev_same, size_put, hz_a3]) (ex0 _ _ _) ?_
  refine ListK.extract (i := 6) (u := .tuple #[vl, .int .i64 0]) (v := .int .i64 0) rfl (by simp [ev_same, ev_ne, size_put, hz_a3]) (ex1 _ _ _) ?_
  refine ListK.assign (i := 7) (v := vl) rfl (by simp [ev_same, ev_ne, size_put, hz_a3]) ?_
  refine ListK.assign (i := 8) (v := .int .i64 0) rfl (by simp [ev_same, ev_ne, size_put, hz_a3]) ?_
  refine ListK.done (hK _ _ ?_)
  clear hK K
  have hB3 : Below W8.heap.size W8 W11 := ((hb0.alloc hb0.size _).trans (hb1.mono (by have := hb0.size; simp; omega))).trans (hb2.mono (by have := hb0.size; have := hb1.size; simp at this; omega))
  replace w1 := w1.below hB3 w1.lt
  replace w3 := w3.below hB3 w3.lt
  replace hvc := hvc.below hB3
  replace hvs := hvs.below hB3
  replace hB2 := hB2.trans (hB3.mono hB2.size)
  generalize hA : Act.put _ _ _ = a4
  have hz_a4 : a4.tmps.size = 91 := by rw [← hA]; simp only [size_put, hz_a3]
  have x1 : a4.eval (.tmp 1) = .pointer (some ⟨p1, 0, none⟩) := by rw [← hA]; exact (by simp [ev_ne, q1])
  have x2 : a4.eval (.tmp 2) = .int .i64 0 := by rw [← hA]; exact (by simp [ev_ne, q2])
  have x3 : a4.eval (.tmp 3) = .pointer (some ⟨p3, 0, none⟩) := by rw [← hA]; exact (by simp [ev_ne, q3])
  have x4 : a4.eval (.tmp 4) = .int .i64 0 := by rw [← hA]; exact (by simp [ev_ne, q4])
  have x5 : a4.eval (.tmp 5) = vc := by rw [← hA]; exact (by simp [ev_ne, q5])
  have x6 : a4.eval (.tmp 6) = vs := by rw [← hA]; exact (by simp [ev_ne, q6])
  have x7 : a4.eval (.tmp 7) = .int .i64 0 := by rw [← hA]; exact (by simp [ev_ne, q7])
  have x8 : a4.eval (.tmp 8) = vl := by rw [← hA]; exact (by simp [ev_same, ev_ne, size_put, hz_a3])
  have x9 : a4.eval (.tmp 9) = .int .i64 0 := by rw [← hA]; exact (by simp [ev_same, size_put, hz_a3])
  have hd_a4 : a4.defers = [] := by rw [← hA]; simp only [defers_put, hd_a3]
  clear hA
  clear hb0 hb1 hb2 hB3 hs A c W8 W9 W10
  refine wpIn_seq (region_l 9 (wideF_plain _) (by kernel_rfl) (by kernel_rfl) ?_)
  intro K hK
  refine ListK.call (i := 0) (vs := #[.slice none 0 0]) rfl (enters_of Try.func35 (by kernel_rfl) rfl) (by simp [ev_const]) (((four_nil W11)).mono ?_)
  rintro _ W12 ⟨A, c, rfl, hs, hb1⟩
  refine ⟨_, rfl, ?_⟩
  refine ListK.call (i := 1) (vs := #[.agg #[.int .i64 4, .int .i64 10, .slice A fourL.length c]]) rfl (enters_of Try.func23 (by kernel_rfl) rfl) (by simp [ev_same, hz_a4]) (((wk_order hs)).mono ?_)
  rintro _ W13 ⟨vo, vd, xs, ds, rfl, hvo, hvd, hpr, hb2⟩
  refine ⟨_, rfl, ?_⟩
  refine ListK.move (i := 2) (v := .tuple #[vo, vd, .int .i64 0]) rfl (by simp [ev_same, size_put, hz_a4]) ?_
  refine ListK.extract (i := 3) (u := .tuple #[vo, vd, .int .i64 0]) (v := vo) rfl (by simp [ev_same, size_put, hz_a4]) (ex3_0 _ _ _ _) ?_
  refine ListK.extract (i := 4) (u := .tuple #[vo, vd, .int .i64 0]) (v := vd) rfl (by simp [ev_same, ev_ne, size_put, hz_a4]) (ex3_1 _ _ _ _) ?_
  refine ListK.extract (i := 5) (u := .tuple #[vo, vd, .int .i64 0]) (v := .int .i64 0) rfl (by simp [ev_same, ev_ne, size_put, hz_a4]) (ex3_2 _ _ _ _) ?_
  refine ListK.assign (i := 6) (v := vo) rfl (by simp [ev_same, ev_ne, size_put, hz_a4]) ?_
  refine ListK.assign (i := 7) (v := vd) rfl (by simp [ev_same, ev_ne, size_put, hz_a4]) ?_
  refine ListK.assign (i := 8) (v := .int .i64 0) rfl (by simp [ev_same, ev_ne, size_put, hz_a4]) ?_
  refine ListK.done (hK _ _ ?_)
  clear hK K
  have hB3 : Below W11.heap.size W11 W13 := hb1.trans (hb2.mono hb1.size)
  replace w1 := w1.below hB3 w1.lt
  replace w3 := w3.below hB3 w3.lt
  replace hvc := hvc.below hB3
  replace hvs := hvs.below hB3
  replace hvl := hvl.below hB3
  replace hB2 := hB2.trans (hB3.mono hB2.size)
  generalize hA : Act.put _ _ _ = a5
  have hz_a5 : a5.tmps.size = 91 := by rw [← hA]; simp only [size_put, hz_a4]
  have y1 : a5.eval (.tmp 1) = .pointer (some ⟨p1, 0, none⟩) := by rw [← hA]; exact (by simp [ev_ne, x1])
  have y2 : a5.eval (.tmp 2) = .int .i64 0 := by rw [← hA]; exact (by simp [ev_ne, x2])
  have y3 : a5.eval (.tmp 3) = .pointer (some ⟨p3, 0, none⟩) := by rw [← hA]; exact (by simp [ev_ne, x3])
  have y4 : a5.eval (.tmp 4) = .int .i64 0 := by rw [← hA]; exact (by simp [ev_ne, x4])
  have y5 : a5.eval (.tmp 5) = vc := by rw [← hA]; exact (by simp [ev_ne, x5])
  have y6 : a5.eval (.tmp 6) = vs := by rw [← hA]; exact (by simp [ev_ne, x6])
  have y7 : a5.eval (.tmp 7) = .int .i64 0 := by rw [← hA]; exact (by simp [ev_ne, x7])
  have y8 : a5.eval (.tmp 8) = vl := by rw [← hA]; exact (by simp [ev_ne, x8])
  have y9 : a5.eval (.tmp 9) = .int .i64 0 := by rw [← hA]; exact (by simp [ev_ne, x9])
  have y10 : a5.eval (.tmp 10) = vo := by rw [← hA]; exact (by simp [ev_same, ev_ne, size_put, hz_a4])
  have y11 : a5.eval (.tmp 11) = vd := by rw [← hA]; exact (by simp [ev_same, ev_ne, size_put, hz_a4])
  have y12 : a5.eval (.tmp 12) = .int .i64 0 := by rw [← hA]; exact (by simp [ev_same, size_put, hz_a4])
  have hd_a5 : a5.defers = [] := by rw [← hA]; simp only [defers_put, hd_a4]
  clear hA
  clear hb1 hb2 hB3 hs A c W11 W12
  refine wpIn_seq (regionU6 (wideF_plain _) hz_a5 y1 y2 y3 y4 y5 y6 y7 y8 y9 y10 y11 y12 (w1.cell 0) (w1.cell 1) (w3.cell 0) (w3.cell 1) hvc hvs hvl (fun A c W' hb hs => wk_prove hvo hvd hpr hb hs) ?_)
  intro a6 W14 hb hz6 hd6 h0
  refine wpIn_ret ?_
  show bodyPost Try.prog Try.f16 (fun e w' => e = .returned (.bool true) ∧ Below W.heap.size W w') Exit.ret _ _
  exact bodyPost_ret (v := .bool true) (res1 Try.results16 h0) (hd6.trans hd_a5) ⟨rfl, hB2.trans (hb.mono hB2.size)⟩
end Go.Proofs.Ytfcnombmphophaa

/-! Qe: Drawn regions by an invariant: each operation has a word on its slot that what comes later keeps; whatever order is picked, each operation is looked at once. -/
namespace Go.Proofs.Ytfcnombmphophaa
open Go.RowKit Go.Shelf
section
variable {P : Program} {ops : Array Oper} {Q : Exit → Act → World → Prop} {md : Region.Mode}
/-- How many operations are not listed yet. -/
def leftOf (listed : Array Bool) : Nat → Nat
  | 0 => 0
  | k + 1 => leftOf listed k + if listed.getD k true = false then 1 else 0
theorem leftOf_set {listed : Array Bool} {i : Nat} (h : listed.getD i true = false) : ∀ k, leftOf (listed.setIfInBounds i true) k + (if i < k then 1 else 0) = leftOf listed k
  | 0 => rfl
  | k + 1 => by
    have ih := leftOf_set h k
    have hi : i < listed.size := by
      by_cases hlt : i < listed.size
      · exact hlt
      · simp [hlt] at h
    have hu : ∀ A : Array Bool, leftOf A (k + 1) = leftOf A k + if A.getD k true = false then 1 else 0 := fun _ => rfl
    rw [hu, hu]
    by_cases e : k = i
    · subst e
      have e1 : (if k < k then 1 else 0) = 0 := if_neg (by omega)
      have e2 : (if k < k + 1 then 1 else 0) = 1 := if_pos (by omega)
      have e3 : (if (listed.setIfInBounds k true).getD k true = false then 1 else 0) = 0 := if_neg (by simp [hi])
      have e4 : (if listed.getD k true = false then 1 else 0) = 1 := if_pos h
      omega
    · have e0 : (listed.setIfInBounds i true).getD k true = listed.getD k true := by
        simp [Ne.symm e, Array.getD_eq_getD_getElem?]
      rw [e0]
      by_cases h2 : i < k
      · have e1 : (if i < k then 1 else 0) = 1 := if_pos h2
        have e2 : (if i < k + 1 then 1 else 0) = 1 := if_pos (by omega)
        omega
      · have e1 : (if i < k then 1 else 0) = 0 := if_neg h2
        have e2 : (if i < k + 1 then 1 else 0) = 0 := if_neg (by omega)
        omega
theorem AnyG.inv {Kp : Nat → World → World → Prop} (S : Array Bool → Act → World → Prop)
    (hstep : ∀ listed a w i, S listed a w → i ∈ Region.ready md ops listed → opG P ops Q i (fun a' w' => Kp i w w' ∧ S (listed.setIfInBounds i true) a' w') a w)
    (hdone : ∀ listed a w, S listed a w → Region.ready md ops listed = [] → Q .normal a w) : ∀ (fuel : Nat) (listed : Array Bool) (a : Act) (w : World), S listed a w → leftOf listed ops.size ≤ fuel → AnyG P md ops Q Kp fuel listed a w
  | 0, listed, a, w, hS, hf => by
    have hr : Region.ready md ops listed = [] := by
      cases h : Region.ready md ops listed with
      | nil => rfl
      | cons i r =>
        have hi : i ∈ Region.ready md ops listed := by rw [h]; exact List.mem_cons_self
        obtain ⟨h1, o, ho, _⟩ := mem_ready.1 hi
        have := leftOf_set h1 ops.size
        rw [if_pos (Array.getElem?_eq_some_iff.1 ho).1] at this
        omega
    exact ⟨hr, hdone _ _ _ hS hr⟩
  | fuel + 1, listed, a, w, hS, hf => by
    refine ⟨hdone _ _ _ hS, fun i hi => ?_⟩
    obtain ⟨h1, o, ho, _⟩ := mem_ready.1 hi
    have hl := leftOf_set h1 ops.size
    rw [if_pos (Array.getElem?_eq_some_iff.1 ho).1] at hl
    refine opG_mono ?_ (hstep listed a w i hS hi)
    rintro a' w' ⟨hk, hS'⟩
    exact ⟨hk, AnyG.inv S hstep hdone fuel _ a' w' hS' (by omega)⟩
end

/-- The words on the slots: number by number. -/
abbrev Words := List (Value → World → Prop)
def Words.at_ (L : Words) (i : Nat) : Value → World → Prop := (L[i]?).getD (fun _ _ => True)
def StableW (p : Value → World → Prop) : Prop := ∀ v w w', p v w → Below w.heap.size w w' → p v w'
/-- The slots that the operations write: all, once each. -/
def dstsB (ops : Array Oper) (N : Nat) : Bool := (List.range ops.size).all fun i => match ops[i]? with
  | some o => (match o.dst with | some d => decide (d < N) && (List.range ops.size).all (fun j => j == i || match ops[j]? with | some oj => oj.dst != some d | none => true) | none => false)
  | none => true
theorem dsts_spec {ops : Array Oper} {N i : Nat} {o : Oper} (h : dstsB ops N = true) (hi : ops[i]? = some o) : ∃ d, o.dst = some d ∧ d < N ∧ ∀ j oj, ops[j]? = some oj → j ≠ i → oj.dst ≠ some d := by
  have h1 := List.all_eq_true.1 h i (List.mem_range.2 (Array.getElem?_eq_some_iff.1 hi).1)
  simp only [hi] at h1
  cases hd : o.dst with
  | none => simp [hd] at h1
  | some d =>
    simp only [hd, Bool.and_eq_true, decide_eq_true_eq] at h1
    refine ⟨d, rfl, h1.1, fun j oj hj hne => ?_⟩
    have h2 := List.all_eq_true.1 h1.2 j (List.mem_range.2 (Array.getElem?_eq_some_iff.1 hj).1)
    simp only [hj, Bool.or_eq_true, beq_iff_eq, bne_iff_ne] at h2
    rcases h2 with h2 | h2
    · exact absurd h2 hne
    · exact h2

section
variable {P : Program} {ops : Array Oper} {L : Words}
/-- What an operation that is carried out must leave. -/
def OpW (P : Program) (p : Value → World → Prop) (o : Oper) (d : Nat) (a : Act) (w : World) : Prop :=
  o.wp P a w (fun a' w' => ∃ v, a' = a.put (some d) v ∧ p v w' ∧ Below w.heap.size w w') (fun _ _ _ => False)
def OpS (P : Program) (ops : Array Oper) (p : Value → World → Prop) (o : Oper) (d : Nat) (a : Act) (w : World) : Prop :=
  if Region.wanted o (yielded ops a.tmps) = true then OpW P p o d a w else p undef w
/-- An operation keeps its word, if those for which it waits keep theirs. -/
def OpOk (P : Program) (ops : Array Oper) (L : Words) (N : Nat) (a0 : Act) (w0 : World) (i : Nat) : Prop :=
  ∀ (o : Oper) (d : Tmp), ops[i]? = some o → o.dst = some d → ∀ (a : Act) (w : World), a.tmps.size = N → Below w0.heap.size w0 w → (∀ e : Tmp, (∀ (j : Nat) (oj : Oper), ops[j]? = some oj → oj.dst ≠ some e) → a.eval (.tmp e) = a0.eval (.tmp e)) →
    (∀ (j : Nat) (oj : Oper) (dj : Tmp), ops[j]? = some oj → oj.dst = some dj → waitsB .any o j = true → L.at_ j (a.eval (.tmp dj)) w) → OpS P ops (L.at_ i) o d a w
structure SInv (ops : Array Oper) (L : Words) (N : Nat) (a0 : Act) (w0 : World) (listed : Array Bool) (a : Act) (w : World) : Prop where
  sz : a.tmps.size = N
  df : a.defers = a0.defers
  low : Below w0.heap.size w0 w
  ls : listed.size = ops.size
  rest : ∀ e : Tmp, (∀ (j : Nat) (oj : Oper), ops[j]? = some oj → oj.dst ≠ some e) → a.eval (.tmp e) = a0.eval (.tmp e)
  slots : ∀ (j : Nat) (oj : Oper) (dj : Tmp), ops[j]? = some oj → oj.dst = some dj → listed[j]? = some true → L.at_ j (a.eval (.tmp dj)) w

theorem SInv.step {N : Nat} {a0 : Act} {w0 : World} {Q : Exit → Act → World → Prop} (hd : dstsB ops N = true) (hst : ∀ i, StableW (L.at_ i)) (hop : ∀ i, i < ops.size → OpOk P ops L N a0 w0 i)
    (hQ : LetsOut (fun _ _ _ => False) → LetsOut Q) {listed : Array Bool} {a : Act} {w : World} {i : Nat} (hS : SInv ops L N a0 w0 listed a w) (hi : i ∈ Region.ready .any ops listed) :
    opG P ops Q i (fun a' w' => True ∧ SInv ops L N a0 w0 (listed.setIfInBounds i true) a' w') a w := by
  obtain ⟨h1, o, ho, hall⟩ := mem_ready.1 hi
  obtain ⟨d, hod, hdN, hdu⟩ := dsts_spec hd ho
  have hlt := (Array.getElem?_eq_some_iff.1 ho).1
  have hdeps : ∀ j oj dj, ops[j]? = some oj → oj.dst = some dj → waitsB .any o j = true → L.at_ j (a.eval (.tmp dj)) w := by
    intro j oj dj hj hdj hw
    obtain ⟨e, he, hb, rfl⟩ := waits_iff.1 hw
    have h2 := hall e he hb
    refine hS.slots _ oj dj hj hdj ?_
    have hlt2 := (Array.getElem?_eq_some_iff.1 hj).1
    rw [← hS.ls] at hlt2
    simp [hlt2] at h2 ⊢
    exact h2
  have hok := hop i hlt o d ho hod a w hS.sz hS.low hS.rest hdeps
  have hput : ∀ v w', L.at_ i v w' → Below w.heap.size w w' → SInv ops L N a0 w0 (listed.setIfInBounds i true) (a.put (some d) v) w' := by
    intro v w' hv hb
    refine ⟨by rw [size_put]; exact hS.sz, by rw [defers_put]; exact hS.df, hS.low.trans (hb.mono hS.low.size), by simp [hS.ls], fun e he => ?_, fun j oj dj hj hdj hl => ?_⟩
    · rw [ev_ne (by rintro rfl; exact he i o ho hod)]
      exact hS.rest e he
    · by_cases e : j = i
      · subst e
        rw [ho] at hj
        cases hj
        rw [hod] at hdj
        cases hdj
        rw [ev_same (by rw [hS.sz]; exact hdN)]
        exact hv
      · have hne : dj ≠ d := by
          rintro rfl
          exact hdu j oj hj e hdj
        rw [ev_ne hne]
        have hl' : listed[j]? = some true := by
          rw [Array.getElem?_setIfInBounds, if_neg (Ne.symm e)] at hl
          exact hl
        exact hst j _ _ _ (hS.slots j oj dj hj hdj hl') hb
  unfold OpS at hok
  unfold opG
  simp only [ho]
  split
  · rename_i hw
    rw [if_pos hw] at hok
    unfold OpW at hok
    unfold Oper.wp at *
    generalize (execOp a.eval o).run P w = r at *
    cases r with
    | ok x w' =>
      cases x <;> simp only [Oper.upon] at hok ⊢ <;>
        first
          | (obtain ⟨v, e1, e2, e3⟩ := hok
             rw [e1]
             exact ⟨trivial, hput v _ e2 e3⟩)
          | (refine Calls.mono hok (fun e w'' he => ?_)
             cases e with
             | returned u =>
               obtain ⟨v, e1, e2, e3⟩ := he
               show True ∧ SInv ops L N a0 w0 _ (a.put o.dst u) w''
               rw [e1]
               exact ⟨trivial, hput v _ e2 e3⟩
             | panicked c => exact he.elim
             | outgrown => exact hQ he)
          | (refine Rows.mono hok (fun u w'' he => ?_)
             obtain ⟨v, e1, e2, e3⟩ := he
             rw [e1]
             exact ⟨trivial, hput v _ e2 e3⟩)
          | exact hok.elim
    | halt x w' => cases x <;> simp only [Oper.upon] at hok ⊢
  · rename_i hw
    rw [if_neg hw] at hok
    rw [hod]
    exact ⟨trivial, hput _ _ hok (Below.refl _ _)⟩
end
/-- Each operation waits for elder ones alone. -/
def forwardB (ops : Array Oper) : Bool := (List.range ops.size).all fun i => match ops[i]? with
  | some o => o.after.all fun e => !Region.binds .any e || decide (e.on < i)
  | none => true
theorem forward_spec {ops : Array Oper} (h : forwardB ops = true) {i : Nat} {o : Oper} (hi : ops[i]? = some o) : ∀ e ∈ o.after, Region.binds .any e = true → e.on < i := by
  intro e he hb
  have h1 := List.all_eq_true.1 h i (List.mem_range.2 (Array.getElem?_eq_some_iff.1 hi).1)
  simp only [hi] at h1
  rw [Array.all_eq_true'] at h1
  have h2 := h1 e he
  simp only [hb, Bool.not_true, Bool.false_or, decide_eq_true_eq] at h2
  exact h2
theorem all_listed {ops : Array Oper} (h : forwardB ops = true) {listed : Array Bool} (hl : listed.size = ops.size) (hr : Region.ready .any ops listed = []) : ∀ i, i < ops.size → listed[i]? = some true := by
  intro i
  induction i using Nat.strongRecOn with
  | _ i ih =>
    intro hi
    have ho : ops[i]? = some ops[i] := Array.getElem?_eq_getElem hi
    have hli : i < listed.size := by omega
    cases hv : listed[i] with
    | true => rw [Array.getElem?_eq_getElem hli, hv]
    | false =>
      have : i ∈ Region.ready .any ops listed := by
        refine mem_ready.2 ⟨by simp [hli, hv], ops[i], ho, fun e he hb => ?_⟩
        have h1 := forward_spec h ho e he hb
        have h2 := ih e.on h1 (by omega)
        simp [Array.getD_eq_getD_getElem?, h2]
      rw [hr] at this
      cases this
/-- No operation writes slot e. -/
def ndstB (ops : Array Oper) (e : Nat) : Bool := ops.all fun o => o.dst != some e
theorem ndst_spec {ops : Array Oper} {e : Nat} (h : ndstB ops e = true) : ∀ (j : Nat) (oj : Oper), ops[j]? = some oj → oj.dst ≠ some e := by
  intro j oj hj
  unfold ndstB at h
  have := (Array.all_eq_true.1 h) j (Array.getElem?_eq_some_iff.1 hj).1
  obtain ⟨hlt, he⟩ := Array.getElem?_eq_some_iff.1 hj
  rw [he] at this
  simpa using this
/-- All of the first k operations keep their words. -/
def OpsOk (P : Program) (ops : Array Oper) (L : Words) (N : Nat) (a0 : Act) (w0 : World) : Nat → Prop
  | 0 => True
  | k + 1 => OpsOk P ops L N a0 w0 k ∧ OpOk P ops L N a0 w0 k
theorem OpsOk.at_ {P : Program} {ops : Array Oper} {L : Words} {N : Nat} {a0 : Act} {w0 : World} : ∀ {k : Nat}, OpsOk P ops L N a0 w0 k → ∀ i, i < k → OpOk P ops L N a0 w0 i
  | k + 1, h, i, hi => by
    by_cases e : i = k
    · subst e
      exact h.2
    · exact OpsOk.at_ h.1 i (by omega)
def AllS : Words → Prop
  | [] => True
  | p :: L => StableW p ∧ AllS L
theorem AllS.at_ : ∀ {L : Words}, AllS L → ∀ i, StableW (L.at_ i)
  | [], _, i => fun _ _ _ h _ => by simp [Words.at_]
  | p :: L, h, 0 => h.1
  | p :: L, h, i + 1 => AllS.at_ h.2 i

section
variable {P : Program} {ops : Array Oper} {Q : Exit → Act → World → Prop} {a : Act} {w : World}
theorem region_S {F : Fence} {n id : Nat} (L : Words) (N : Nat) (hF : WideF F P) (hnd : Region.noDefer ops = true) (hm : P.follows .mixedOrders = true) (hds : dstsB ops N = true) (hfw : forwardB ops = true) (hst : AllS L) (hsz : a.tmps.size = N)
    (k : Nat) (hk : ops.size = k) (hop : OpsOk P ops L N a w.drew k)
    (hK : ∀ (a' : Act) (w' : World), a'.tmps.size = N → a'.defers = a.defers → Below w.heap.size w w' → (∀ e, ndstB ops e = true → a'.eval (.tmp e) = a.eval (.tmp e)) → (∀ (j d : Nat), (ops[j]?).bind (·.dst) = some d → L.at_ j (a'.eval (.tmp d)) w') → Q .normal a' w') :
    (Code.region id ops true).wpIn F n P Q a w := by
  refine region_K (fun _ _ _ => True) hF hnd hm ?_
  refine AnyG.inv (SInv ops L N a w.drew) ?_ ?_ _ _ _ _ ?_ ?_
  · intro listed a' w' i hS hi
    exact SInv.step hds hst.at_ (fun i hi => hop.at_ i (by omega)) (fun ⟨_, _, h⟩ => h.elim) hS hi
  · intro listed a' w' hS hr
    have hall := all_listed hfw hS.ls hr
    have hb : Below w.heap.size w w' := (Below.refl w.heap.size w).drew.trans hS.low
    refine hK a' w' hS.sz hS.df hb (fun e he => hS.rest e (ndst_spec he)) (fun j d hj => ?_)
    rw [Option.bind_eq_some_iff] at hj
    obtain ⟨oj, h1, h2⟩ := hj
    exact hS.slots j oj d h1 h2 (hall j (Array.getElem?_eq_some_iff.1 h1).1)
  · refine ⟨hsz, rfl, Below.refl _ _, by simp, fun _ _ => rfl, fun j oj dj _ _ hl => ?_⟩
    simp [Array.getElem?_replicate] at hl
  · have : ∀ (m k : Nat), leftOf (Array.replicate m false) k ≤ k := by
      intro m k
      induction k with
      | zero => exact Nat.le_refl _
      | succ k ih =>
        unfold leftOf
        split <;> omega
    exact this _ _
end

section
variable {P : Program} {ops : Array Oper} {L : Words} {N : Nat} {a0 : Act} {w0 : World} {i d : Nat} {ty : TypeId} {pos : String} {aft : Array Edge} {gd : Option (Nat × Bool)}
/-- What is known when operation i comes up. -/
structure Dp (ops : Array Oper) (L : Words) (N : Nat) (a0 : Act) (w0 : World) (i : Nat) (a : Act) (w : World) : Prop where
  sz : a.tmps.size = N
  low : Below w0.heap.size w0 w
  out : ∀ e, ndstB ops e = true → a.eval (.tmp e) = a0.eval (.tmp e)
  dep : ∀ (j d : Nat), (ops[j]?).bind (·.dst) = some d → (ops[i]?).map (fun o => waitsB .any o j) = some true → L.at_ j (a.eval (.tmp d)) w
/-- By the guard: A, or B. -/
def Gd (ops : Array Oper) (gd : Option (Nat × Bool)) (a : Act) (A B : Prop) : Prop := match gd with
  | none => A
  | some (j, b) => ∃ e c, (ops[j]?).bind (·.dst) = some e ∧ a.eval (.tmp e) = .bool c ∧ ((c == b) = true → A) ∧ ((c == b) = false → B)
theorem OpOk.gen {op : Op} (hi : ops[i]? = some ⟨some d, op, ty, pos, aft, gd⟩) (h : ∀ a w, Dp ops L N a0 w0 i a w → Gd ops gd a (OpW P (L.at_ i) ⟨some d, op, ty, pos, aft, gd⟩ d a w) (L.at_ i undef w)) : OpOk P ops L N a0 w0 i := by
  intro o d' ho hod a w hz hb hr hdep
  rw [hi] at ho
  cases ho
  cases hod
  have hg := h a w ⟨hz, hb, fun e he => hr e (ndst_spec he), fun j dj hj hw => by
    rw [Option.bind_eq_some_iff] at hj
    obtain ⟨oj, h1, h2⟩ := hj
    rw [hi] at hw
    simp at hw
    exact hdep j oj dj h1 h2 hw⟩
  unfold OpS
  cases gd with
  | none =>
    rw [if_pos (show Region.wanted _ _ = true from rfl)]
    exact hg
  | some jb =>
    obtain ⟨j, b⟩ := jb
    obtain ⟨e, c, h1, h2, h3, h4⟩ := hg
    have hw : Region.wanted ⟨some d, op, ty, pos, aft, some (j, b)⟩ (yielded ops a.tmps) = (c == b) := wanted_g h1 h2 rfl
    rw [hw]
    split
    · rename_i hc
      exact h3 hc
    · rename_i hc
      exact h4 (by simpa using hc)
variable {a : Act} {w w' : World} {p : Value → World → Prop} {v : Value}
theorem OpW.val {o : Oper} (hd : o.dst = some d) (hr : (execOp a.eval o).run P w = .ok (.value v) w') (hp : p v w') (hb : Below w.heap.size w w') : OpW P p o d a w := by
  unfold OpW
  simp only [Oper.wp, hr, Oper.upon, hd]
  exact ⟨v, rfl, hp, hb⟩
theorem OpW.move {x : Operand} (hx : a.eval x = v) (hp : p v w) : OpW P p ⟨some d, .move x, ty, pos, aft, gd⟩ d a w := OpW.val rfl (by simp [execOp, hx]) hp (Below.refl _ _)
theorem OpW.assign {x : Operand} (hx : a.eval x = v) (hp : p v w) : OpW P p ⟨some d, .assign x, ty, pos, aft, gd⟩ d a w := OpW.val rfl (by simp [execOp, hx]) hp (Below.refl _ _)
theorem OpW.load {t : TypeId} {x : Operand} {ad : Addr} (hx : a.eval x = .pointer (some ad)) (hv : (Instr.loadAt t (.pointer (some ad))).run P w = .ok v w) (hp : p v w) : OpW P p ⟨some d, .load t x, ty, pos, aft, gd⟩ d a w :=
  OpW.val rfl (by simp [execOp, hx, hv]) hp (Below.refl _ _)
theorem OpW.field {t : TypeId} {x : Operand} {f : Nat} {u : Value} (hx : a.eval x = u) (hv : (Instr.fieldAt t u f).run P w = .ok v w) (hp : p v w) : OpW P p ⟨some d, .fieldAddr t x f, ty, pos, aft, gd⟩ d a w :=
  OpW.val rfl (by simp [execOp, hx, hv]) hp (Below.refl _ _)
theorem OpW.index {t : TypeId} {x y : Operand} {u u' : Value} (hx : a.eval x = u) (hy : a.eval y = u') (hv : (Instr.indexAt t u u').run P w = .ok v w) (hp : p v w) : OpW P p ⟨some d, .indexAddr t x y, ty, pos, aft, gd⟩ d a w :=
  OpW.val rfl (by simp [execOp, hx, hy, hv]) hp (Below.refl _ _)
theorem OpW.bin {b : BinOp} {t t' : TypeId} {x y : Operand} {u u' : Value} (hx : a.eval x = u) (hy : a.eval y = u') (hv : (do eqGuard b t x y u u'; binOp b t u u' : Sem Value).run P w = .ok v w) (hp : p v w) : OpW P p ⟨some d, .binOp b t x y t', ty, pos, aft, gd⟩ d a w :=
  OpW.val rfl (by
    simp only [execOp, hx, hy]
    have := hv
    simp only [Sem.run_bind] at this ⊢
    rw [this]
    simp) hp (Below.refl _ _)
theorem OpW.un {b : UnOp} {t : TypeId} {x : Operand} {u : Value} (hx : a.eval x = u) (hv : (Op.unary b u).run P w = .ok v w) (hp : p v w) : OpW P p ⟨some d, .unOp b t x, ty, pos, aft, gd⟩ d a w :=
  OpW.val rfl (by simp [execOp, hx, hv]) hp (Below.refl _ _)
theorem OpW.pick {c x y : Operand} {b : Bool} (hc : a.eval c = .bool b) (hp : p (if b then a.eval x else a.eval y) w) : OpW P p ⟨some d, .pick c x y, ty, pos, aft, gd⟩ d a w :=
  OpW.val rfl (by simp [execOp, hc, asBool]) hp (Below.refl _ _)
theorem OpW.extract {x : Operand} {m : Nat} {u : Value} (hx : a.eval x = u) (hv : (Instr.extract u m).run P w = .ok v w) (hp : p v w) : OpW P p ⟨some d, .extract x m, ty, pos, aft, gd⟩ d a w :=
  OpW.val rfl (by simp [execOp, hx, hv]) hp (Below.refl _ _)
theorem OpW.bld {t : TypeId} {parts : Array (Nat × Operand)} {ps : Array (Nat × Value)} (hp : parts.map (fun (i, x) => (i, a.eval x)) = ps) (hv : (Instr.build t ps).run P w = .ok v w) (hq : p v w) : OpW P p ⟨some d, .build t parts, ty, pos, aft, gd⟩ d a w :=
  OpW.val rfl (by simp only [execOp, hp]; simp [hv]) hq (Below.refl _ _)
theorem OpW.bsl {t : TypeId} {m : Nat} {parts : Array (Nat × Operand)} {ps : Array (Nat × Value)} (hp : parts.map (fun (i, x) => (i, a.eval x)) = ps) (hv : (Instr.buildSlice t m ps).run P w = .ok v w') (hq : p v w') (hb : Below w.heap.size w w') : OpW P p ⟨some d, .buildSlice t m parts, ty, pos, aft, gd⟩ d a w :=
  OpW.val rfl (by simp only [execOp, hp]; simp [hv]) hq hb
theorem OpW.len {x : Operand} {tys : Array TypeId} {u : Value} (hx : a.eval x = u) (hv : (builtin .len tys ty #[false] #[u]).run P w = .ok (.value v) w) (hc : (match x with | .const _ => true | _ => false) = false) (hp : p v w) : OpW P p ⟨some d, .call { callee := .builtin .len, args := #[x], argTypes := tys }, ty, pos, aft, gd⟩ d a w :=
  OpW.val rfl (by cases x <;> simp_all [execOp, resolve, invoke]) hp (Below.refl _ _)
theorem OpW.call {f : FuncId} {args : Array Operand} {tys : Array TypeId} {vs : Array Value} (he : ∀ args w, (callFunc f args).run P w = .ok (.enter f args) w) (hp : args.map a.eval = vs)
    (h : Calls P f vs w fun e w' => ∃ v, e = .returned v ∧ p v w' ∧ Below w.heap.size w w') : OpW P p ⟨some d, .call { callee := .value (.func f), args := args, argTypes := tys }, ty, pos, aft, gd⟩ d a w := by
  unfold OpW
  simp only [Oper.wp, execOp, resolve, hp, Act.eval, Deferred.ofValue]
  simp [invoke, he, Oper.upon]
  refine h.mono ?_
  rintro e w' ⟨v, rfl, h1, h2⟩
  exact ⟨v, rfl, h1, h2⟩
theorem gd_none {A B : Prop} (h : A) : Gd ops none a A B := h
theorem gd_false {A B : Prop} {j e : Nat} {b c : Bool} (hj : (ops[j]?).bind (·.dst) = some e) (he : a.eval (.tmp e) = .bool c) (hn : (c == b) = false) (h : B) : Gd ops (some (j, b)) a A B := ⟨e, c, hj, he, fun h2 => (by rw [hn] at h2; cases h2), fun _ => h⟩
theorem Dp.cell (H : Dp ops L N a0 w0 i a w) {q : Addr} {u : Value} (hc : w0.cell? q = some u) : w.cell? q = some u := (H.low.cell (block_lt_of_cell hc)).trans hc
theorem gd_true {A B : Prop} {j e : Nat} {b : Bool} (hj : (ops[j]?).bind (·.dst) = some e) (he : a.eval (.tmp e) = .bool b) (h : A) : Gd ops (some (j, b)) a A B := ⟨e, b, hj, he, fun _ => h, fun h => by simp at h⟩
end
end Go.Proofs.Ytfcnombmphophaa

/-! Qf: Regions by an invariant, further: plain regions too; operations whose guards are not decided. -/
namespace Go.Proofs.Ytfcnombmphophaa
open Go.RowKit Go.Shelf
section
variable {P : Program} {ops : Array Oper} {L : Words} {N : Nat} {a0 : Act} {w0 : World}
/-- Each operation waits for those of which it knows something, and for elder ones alone: a plain region is one of the orders. -/
theorem SInv.list (hd : dstsB ops N = true) (hfw : forwardB ops = true) (hst : ∀ i, StableW (L.at_ i)) (K : Act → World → Prop) : ∀ (k i : Nat), i + k = ops.size → (hop : ∀ i, i < ops.size → OpOk P ops L N a0 w0 i) →
    (hK : ∀ a w, (∃ listed, SInv ops L N a0 w0 listed a w ∧ ∀ j, j < ops.size → listed[j]? = some true) → K a w) → ∀ (listed : Array Bool) (a : Act) (w : World), SInv ops L N a0 w0 listed a w → (∀ j, j < ops.size → listed[j]? = some (decide (j < i))) → ListK P ops K k i a w := by
  intro k
  induction k with
  | zero =>
    intro i hi hop hK listed a w hS hl
    have : ListK P ops K 0 i a w = K a w := by unfold ListK; rfl
    rw [this]
    exact hK a w ⟨listed, hS, fun j hj => by rw [hl j hj]; simp; omega⟩
  | succ k ih =>
    intro i hi hop hK listed a w hS hl
    have hlt : i < ops.size := by omega
    have ho : ops[i]? = some ops[i] := Array.getElem?_eq_getElem hlt
    have hready : i ∈ Region.ready .any ops listed := by
      refine mem_ready.2 ⟨?_, ops[i], ho, fun e he hb => ?_⟩
      · have := hl i hlt
        simp only [Nat.lt_irrefl, decide_false] at this
        simp [Array.getD_eq_getD_getElem?, this]
      · have h1 := forward_spec hfw ho e he hb
        have := hl e.on (by omega)
        simp only [h1, decide_true] at this
        simp [Array.getD_eq_getD_getElem?, this]
    have hs := SInv.step (Q := fun _ _ _ => False) hd hst hop (fun h => h) hS hready
    have : ListK P ops K (k + 1) i a w = opG P ops (fun _ _ _ => False) i (ListK P ops K k (i + 1)) a w := by unfold ListK; rfl
    rw [this]
    refine opG_mono ?_ hs
    rintro a' w' ⟨-, hS'⟩
    refine ih (i + 1) (by omega) hop hK _ a' w' hS' (fun j hj => ?_)
    rw [Array.getElem?_setIfInBounds]
    by_cases e : i = j
    · subst e
      rw [if_pos rfl, if_pos (by rw [hS.ls]; exact hj)]
      simp
    · rw [if_neg e, hl j hj]
      congr 1
      by_cases h2 : j < i
      · simp [h2, show j < i + 1 by omega]
      · simp [h2, show ¬ j < i + 1 by omega]
theorem region_SP {F : Fence} {n id : Nat} {Q : Exit → Act → World → Prop} {a : Act} {w : World} (L : Words) (N : Nat) (hF : WideF F P) (hnd : Region.noDefer ops = true) (hds : dstsB ops N = true) (hfw : forwardB ops = true) (hst : AllS L) (hsz : a.tmps.size = N)
    (k : Nat) (hk : ops.size = k) (hop : OpsOk P ops L N a w k)
    (hK : ∀ (a' : Act) (w' : World), a'.tmps.size = N → a'.defers = a.defers → Below w.heap.size w w' → (∀ e, ndstB ops e = true → a'.eval (.tmp e) = a.eval (.tmp e)) → (∀ (j d : Nat), (ops[j]?).bind (·.dst) = some d → L.at_ j (a'.eval (.tmp d)) w') → Q .normal a' w') :
    (Code.region id ops false).wpIn F n P Q a w := by
  refine region_L k hF hnd hk ?_
  refine SInv.list (N := N) (a0 := a) (w0 := w) hds hfw hst.at_ _ k 0 (by omega) (fun i hi => hop.at_ i (by omega)) ?_ (Array.replicate ops.size false) a w ⟨hsz, rfl, Below.refl _ _, by simp, fun _ _ => rfl, fun j oj dj _ _ hl => by simp [Array.getElem?_replicate] at hl⟩ (fun j hj => by simp [hj])
  rintro a' w' ⟨listed, hS, hall⟩
  refine hK a' w' hS.sz hS.df hS.low (fun e he => hS.rest e (ndst_spec he)) (fun j d hj => ?_)
  rw [Option.bind_eq_some_iff] at hj
  obtain ⟨oj, h1, h2⟩ := hj
  exact hS.slots j oj d h1 h2 (hall j (Array.getElem?_eq_some_iff.1 h1).1)

/-- A word that holds under a condition; else nothing was computed. -/
def Wd (C : Prop) (p : Value → World → Prop) : Value → World → Prop := fun v w => (C → p v w) ∧ (¬ C → v = undef)
theorem Wd.st {C : Prop} {p : Value → World → Prop} (h : StableW p) : StableW (Wd C p) := fun v w w' hv hb => ⟨fun hc => h v w w' (hv.1 hc) hb, hv.2⟩
theorem wanted_undef {op : Op} {b : Bool} {j e : Nat} {dd : Option Tmp} {a : Act} {ty : TypeId} {pos : String} {aft : Array Edge} (hj : (ops[j]?).bind (·.dst) = some e) (he : a.eval (.tmp e) = undef) : Region.wanted ⟨dd, op, ty, pos, aft, some (j, b)⟩ (yielded ops a.tmps) = false := by
  rw [Option.bind_eq_some_iff] at hj
  obtain ⟨oj, h1, h2⟩ := hj
  unfold Region.wanted yielded
  simp only [h1]
  simp only [Act.eval, Array.getD_eq_getD_getElem?] at he
  cases hq : a.tmps[e]? with
  | none => simp [h2, hq]
  | some u =>
    rw [hq] at he
    simp at he
    subst he
    simp [h2, hq, undef]
variable {i d : Nat} {ty : TypeId} {pos : String} {aft : Array Edge}
/-- An operation whose guard is known under a condition. -/
theorem OpOk.sym {op : Op} {j e : Nat} {b : Bool} {C : Prop} {p : Value → World → Prop} (g : Bool) (hi : ops[i]? = some ⟨some d, op, ty, pos, aft, some (j, b)⟩) (hj : (ops[j]?).bind (·.dst) = some e)
    (hp : L.at_ i = Wd (C ∧ g = b) p) (hg : ∀ a w, Dp ops L N a0 w0 i a w → Wd C (fun v _ => v = .bool g) (a.eval (.tmp e)) w) (h : ∀ a w, Dp ops L N a0 w0 i a w → C → g = b → OpW P p ⟨some d, op, ty, pos, aft, some (j, b)⟩ d a w) : OpOk P ops L N a0 w0 i := by
  intro o d' ho hod a w hz hb hr hdep
  rw [hi] at ho
  cases ho
  cases hod
  have H : Dp ops L N a0 w0 i a w := ⟨hz, hb, fun e he => hr e (ndst_spec he), fun j dj hj hw => by
    rw [Option.bind_eq_some_iff] at hj
    obtain ⟨oj, h1, h2⟩ := hj
    rw [hi] at hw
    simp at hw
    exact hdep j oj dj h1 h2 hw⟩
  have hgd := hg a w H
  rw [hp]
  unfold OpS
  by_cases hC : C
  · have hw : Region.wanted ⟨some d, op, ty, pos, aft, some (j, b)⟩ (yielded ops a.tmps) = (g == b) := wanted_g hj (hgd.1 hC) rfl
    rw [hw]
    by_cases hgb : g = b
    · rw [if_pos (by simp [hgb])]
      have h1 := h a w H hC hgb
      unfold OpW at h1 ⊢
      refine Oper.wp_mono ?_ h1
      rintro a' w' ⟨v, e1, e2, e3⟩
      exact ⟨v, e1, ⟨fun _ => e2, fun hn => absurd ⟨hC, hgb⟩ hn⟩, e3⟩
    · rw [if_neg (by simp [hgb])]
      exact ⟨fun hn => absurd hn.2 hgb, fun _ => rfl⟩
  · have hw : Region.wanted ⟨some d, op, ty, pos, aft, some (j, b)⟩ (yielded ops a.tmps) = false := wanted_undef hj (hgd.2 hC)
    rw [hw, if_neg (by simp)]
    exact ⟨fun hn => absurd hn.1 hC, fun _ => rfl⟩
end
end Go.Proofs.Ytfcnombmphophaa

/-! Qg: The reference's small functions: In, Has, Fault, and fault of the law. -/
namespace Go.Proofs.Ytfcnombmphophaa
open Go.RowKit Go.Shelf
set_option maxHeartbeats 400000 in
theorem in_any (n lo hi : Int) (w : World) :
    Calls Try.prog 31 #[.int .i64 n, .int .i64 lo, .int .i64 hi] w fun e w' => e = .returned (.bool (inR n lo hi)) ∧ w = w' := by
  by_cases h1 : lo ≤ n
  · go_enter Try.func31, Try.ntmps31
    go_wp2
    go_ret
    exact ⟨by simp [inR, h1], rfl⟩
  · have hd : decide (lo ≤ n) = false := by simpa using h1
    go_enter Try.func31, Try.ntmps31
    go_wp2
    go_ret
    exact ⟨by simp [inR]; omega, rfl⟩
/-- Is a number in a list? -/
def hasI (l : List Int) (n : Int) : Bool := l.any (fun x => x == n)
theorem hasI_drop (l : List Int) (n : Int) (k : Nat) (hk : k < l.length) : hasI (l.drop k) n = (l[k] == n || hasI (l.drop (k + 1)) n) := by
  rw [List.drop_eq_getElem_cons hk]
  rfl
set_option maxHeartbeats 400000 in
theorem hasI_any (A : Option Addr) (c : Nat) (l : List Int) (n : Int) (w : World) (hl : l.length ≤ 1000000) (hs : IntsAt w w.heap.size A l) :
    Calls Try.prog 40 #[.slice A l.length c, .int .i64 n] w fun e w' => e = .returned (.bool (hasI l n)) ∧ w = w' := by
  have Hs := Lib.hid hs
  clear hs
  go_enter Try.func40, Try.ntmps40
  go_wp2
  go_loop [5] (fun i => ∃ k : Nat, k ≤ l.length ∧ i = .int .i64 k ∧ hasI l n = hasI (l.drop k) n) (fun i => l.length - (intOf i).toNat)
  case atStart => exact ⟨0, Nat.zero_le _, rfl, rfl⟩
  case round =>
    obtain ⟨k, hk, rfl, hgood⟩ := hrel
    by_cases hlt' : k < l.length
    · obtain ⟨b, off, rfl, hbB, c0⟩ := Hs.out k l[k] (List.getElem?_eq_getElem hlt')
      have HG := Lib.hid hgood
      clear hgood
      by_cases hx : l[k] = n
      · have hh : hasI l n = true := by rw [HG.out, hasI_drop l n k hlt']; simp [hx]
        have HH := Lib.hid hh
        clear hh
        go_wp2_with fail
        go_ret
        exact ⟨by rw [HH.out]; rfl, rfl⟩
      · have hh : hasI l n = hasI (l.drop (k + 1)) n := by rw [HG.out, hasI_drop l n k hlt']; simp [hx]
        have HH := Lib.hid hh
        clear hh
        go_wp2_with fail
        go_round
        case rel => exact ⟨k + 1, by omega, by simp, HH.out⟩
        case measure => simp [intOf]; omega
    · obtain rfl : k = l.length := by omega
      have HH := Lib.hid (show hasI l n = false from by rw [hgood, List.drop_length]; rfl)
      clear hgood
      go_wp2_with fail
      go_ret
      exact ⟨by rw [HH.out]; rfl, rfl⟩
theorem saleOk_ref (o : Int) (s : Sale) : saleOk o s = (inR s.src 0 (o - 1) && (inR s.dst 0 (o - 1) && (!decide (s.src = s.dst) && (inR s.many 1 1000 && (inR s.lo 0 s.hi && !decide (100 < s.hi)))))) := by
  rw [Bool.eq_iff_iff]
  simp only [saleOk, Bool.and_eq_true, inR_iff, decide_eq_true_eq, Bool.not_eq_true', decide_eq_false_iff_not]
  omega
theorem all_drop {α : Type} (p : α → Bool) (l : List α) (k : Nat) (hk : k < l.length) : (l.drop k).all p = (p l[k] && (l.drop (k + 1)).all p) := by
  rw [List.drop_eq_getElem_cons hk]
  rfl
set_option maxHeartbeats 2000000 in
theorem refFault_any (o t : Int) (A : Option Addr) (l : List Sale) (c : Nat) (w : World) (hl : l.length ≤ 12) (hs : SalesAt w w.heap.size A l) :
    Calls Try.prog 51 #[.agg #[.int .i64 o, .int .i64 t, .slice A l.length c]] w
      fun e w' => e = .returned (.int .i64 (fault o t l)) ∧ Below w.heap.size w w' := by
  have hB := (Below.refl w.heap.size w).alloc (Nat.le_refl _) (.cells #[.int .i64 o, .int .i64 t, .slice A l.length c] 24)
  have Hs := Lib.hid (hs.below hB (Nat.le_refl _))
  clear hs
  by_cases h8 : 8 < l.length
  · have HF := Lib.hid (fault_limit (o := o) (t := t) h8)
    go_enter Try.func51, Try.ntmps51
    go_wp2_with fail
    go_ret
    exact ⟨by rw [HF.out]; rfl, hB⟩
  · by_cases h1 : inR o 1 6 = true
    · have ho := inR_iff.1 h1
      by_cases h2 : inR t 0 1000 = true
      · go_enter Try.func51, Try.ntmps51
        go_wp2_with (first | (go_at_call 31; refine (in_any _ _ _ _).mono ?_; rintro e w' ⟨rfl, rfl⟩))
        go_loopw [3] (fun i wr => ∃ k : Nat, k ≤ l.length ∧ i = .int .i64 k ∧ l.all (saleOk o) = (l.drop k).all (saleOk o) ∧ Below (w.heap.size + 1) (w.alloc (.cells #[.int .i64 o, .int .i64 t, .slice A l.length c] 24)) wr) (fun i _ => l.length - (intOf i).toNat)
        case atStart => exact ⟨0, Nat.zero_le _, rfl, rfl, Below.refl _ _⟩
        case round =>
          obtain ⟨k, hk, rfl, hgood, hb⟩ := hrel
          have hz : w.heap.size + 1 ≤ wr.heap.size := by have := hb.size; simp at this; omega
          have q0 : wr.cell? ⟨w.heap.size, 0, none⟩ = some (.int .i64 o) := (hb.cell (p := ⟨w.heap.size, 0, none⟩) (by simp)).trans (by go_simp)
          have q2 : wr.cell? ⟨w.heap.size, 2, none⟩ = some (.slice A l.length c) := (hb.cell (p := ⟨w.heap.size, 2, none⟩) (by simp)).trans (by go_simp)
          have hB2 := hB.trans (hb.mono (by simp))
          by_cases hlt' : k < l.length
          · obtain ⟨b, off, rfl, hbB, c0, c1, c2, c3, c4⟩ := (Hs.out.more (by omega)).below hb (Nat.le_refl _) k l[k] (List.getElem?_eq_getElem hlt')
            have hg2 := all_drop (saleOk o) l k hlt'
            have HG := Lib.hid hgood
            have HG2 := Lib.hid hg2
            clear hgood hg2
            have hzz : w.heap.size < wr.heap.size := by omega
            have hbz : b < wr.heap.size := by omega
            generalize l[k] = s at *
            obtain ⟨sa, sb, sm, sx, sy⟩ := s
            simp only [] at c0 c1 c2 c3 c4
            by_cases hok : saleOk o ⟨sa, sb, sm, sx, sy⟩ = true
            · have HK := Lib.hid hok
              rw [saleOk_ref] at hok
              simp only [Bool.and_eq_true, Bool.not_eq_true', decide_eq_false_iff_not] at hok
              obtain ⟨e1, e2, e3', e4, e5, e6'⟩ := hok
              have e3 : (sa == sb) = false := by simpa using e3'
              have e6 : sy ≤ 100 := by omega
              clear e3' e6'
              go_wp2_with (first | (go_at_call 31; refine (in_any _ _ _ _).mono ?_; rintro e w' ⟨rfl, rfl⟩))
              exact ⟨⟨k + 1, by omega, by simp, by rw [HG.out, HG2.out, HK.out]; rfl, hb.alloc hz _⟩, by simp [intOf]; omega⟩
            · have hok' : saleOk o ⟨sa, sb, sm, sx, sy⟩ = false := by simpa using hok
              have HF := Lib.hid (fault_all (o := o) (t := t) (l := l) (by omega) (by rw [HG.out, HG2.out, hok']; rfl))
              have HK := Lib.hid hok'
              clear hok hok'
              go_wp2_with (first | (go_at_call 31; refine (in_any _ _ _ _).mono ?_; rintro e w' ⟨rfl, rfl⟩))
              all_goals first
                | (go_ret; exact ⟨by rw [HF.out]; rfl, hB2.alloc (by omega) _⟩)
                | (exfalso; have := HK.out; rw [saleOk_ref] at this; simp_all; omega)
                | (exfalso; have := HK.out; rw [saleOk_ref] at this; simp_all)
          · obtain rfl : k = l.length := by omega
            have HF := Lib.hid (fault_ok (o := o) (t := t) (l := l) (by omega) h1 h2 (by rw [hgood, List.drop_length]; rfl))
            clear hgood
            go_wp2_with fail
            go_ret
            exact ⟨by rw [HF.out]; rfl, hB2⟩
      · have h2' : inR t 0 1000 = false := by simpa using h2
        have HF := Lib.hid (fault_tot (o := o) (t := t) (l := l) (by omega) h2')
        clear h2
        go_enter Try.func51, Try.ntmps51
        go_wp2_with (first | (go_at_call 31; refine (in_any _ _ _ _).mono ?_; rintro e w' ⟨rfl, rfl⟩))
        go_ret
        exact ⟨by rw [HF.out]; rfl, hB⟩
    · have h1' : inR o 1 6 = false := by simpa using h1
      have HF := Lib.hid (fault_own (o := o) (t := t) (l := l) (by omega) h1')
      clear h1
      go_enter Try.func51, Try.ntmps51
      go_wp2_with (first | (go_at_call 31; refine (in_any _ _ _ _).mono ?_; rintro e w' ⟨rfl, rfl⟩))
      go_ret
      exact ⟨by rw [HF.out]; rfl, hB⟩
set_option maxHeartbeats 400000 in
theorem lawFault_any (o t : Int) (A : Option Addr) (l : List Sale) (c : Nat) (w : World) (hl : l.length ≤ 12) (hs : SalesAt w w.heap.size A l) :
    Calls Try.prog 21 #[.agg #[.int .i64 o, .int .i64 t, .slice A l.length c]] w
      fun e w' => e = .returned (.int .i64 (fault o t l)) ∧ Below w.heap.size w w' := by
  have hB := (Below.refl w.heap.size w).alloc (Nat.le_refl _) (.cells #[.int .i64 o, .int .i64 t, .slice A l.length c] 24)
  have Hs := Lib.hid ((hs.below hB (Nat.le_refl _)).more (by simp : w.heap.size ≤ (w.alloc (.cells #[.int .i64 o, .int .i64 t, .slice A l.length c] 24)).heap.size))
  clear hs
  go_enter Try.func21, Try.ntmps21
  go_wp2_with (go_at_call 51; refine (refFault_any o t A l c _ hl Hs.out).mono ?_; rintro e w' ⟨rfl, hb⟩)
  go_ret
  exact ⟨rfl, hB.trans (hb.mono (by simp))⟩
end Go.Proofs.Ytfcnombmphophaa

/-! Qh: The reference's Stock: what an owner has when some sales are done. -/
namespace Go.Proofs.Ytfcnombmphophaa
open Go.RowKit Go.Shelf
/-- What one sale does to an owner. -/
def stepR (l : List Sale) (ow : Int) (x d : Int) : Int :=
  let s := saleOf l d.toNat
  let y := if s.dst = ow then x + s.many else x
  if s.src = ow then y - s.many else y
def stockR (t : Int) (l : List Sale) (done : List Int) (ow : Int) : Int := done.foldl (stepR l ow) (if ow = 0 then t else 0)
theorem stepR_bound {l : List Sale} {ow x d M : Int} (h0 : 0 ≤ (saleOf l d.toNat).many) (h1 : (saleOf l d.toNat).many ≤ 1000) (h : -M ≤ x ∧ x ≤ M) : -(M + 2000) ≤ stepR l ow x d ∧ stepR l ow x d ≤ M + 2000 := by
  simp only [stepR]
  split <;> split <;> omega
set_option maxHeartbeats 2000000 in
theorem stockR_any (o t ow : Int) (A A1 : Option Addr) (l : List Sale) (done : List Int) (c c1 : Nat) (w : World) (hl : l.length ≤ 12) (hd : done.length ≤ 12) (ht0 : 0 ≤ t) (ht : t ≤ 1000) (hm : ∀ s, s ∈ l → 0 ≤ s.many ∧ s.many ≤ 1000)
    (hdn : ∀ d, d ∈ done → 0 ≤ d ∧ d < l.length) (hs : SalesAt w w.heap.size A l) (h1 : IntsAt w w.heap.size A1 done) :
    Calls Try.prog 69 #[.agg #[.int .i64 o, .int .i64 t, .slice A l.length c], .slice A1 done.length c1, .int .i64 ow] w
      fun e w' => e = .returned (.int .i64 (stockR t l done ow)) ∧ Below w.heap.size w w' := by
  have hB := (Below.refl w.heap.size w).alloc (Nat.le_refl _) (.cells #[.int .i64 o, .int .i64 t, .slice A l.length c] 24)
  have Hs := Lib.hid (hs.below hB (Nat.le_refl _))
  have H1 := Lib.hid (h1.below hB (Nat.le_refl _))
  have HM := Lib.hid hm
  have HD := Lib.hid hdn
  clear hs h1 hm hdn
  generalize hq : stockR t l done ow = res
  have hq' : res = done.foldl (stepR l ow) (if ow = 0 then t else 0) := by rw [← hq]; rfl
  have HQ := Lib.hid hq'
  clear hq hq'
  have HX : (ow == 0) = true ∧ Hid (res = done.foldl (stepR l ow) t) ∨ (ow == 0) = false ∧ Hid (res = done.foldl (stepR l ow) 0) := by
    have := HQ.out
    by_cases e : ow = 0
    · rw [if_pos e] at this
      exact .inl ⟨by simpa using e, Lib.hid this⟩
    · rw [if_neg e] at this
      exact .inr ⟨by simpa using e, Lib.hid this⟩
  clear HQ
  rcases HX with ⟨h0, HQ⟩ | ⟨h0, HQ⟩
  all_goals
    go_enter Try.func69, Try.ntmps69
    go_wp2_with fail
    go_loopw [7, 8] (fun n i wr => ∃ (k : Nat) (x : Int), k ≤ done.length ∧ n = .int .i64 x ∧ i = .int .i64 k ∧ res = (done.drop k).foldl (stepR l ow) x ∧ -(1000 + 2000 * (k : Int)) ≤ x ∧ x ≤ 1000 + 2000 * (k : Int) ∧ Below (w.heap.size + 1) (w.alloc (.cells #[.int .i64 o, .int .i64 t, .slice A l.length c] 24)) wr) (fun _ i _ => done.length - (intOf i).toNat)
    case atStart => exact ⟨0, _, Nat.zero_le _, rfl, rfl, HQ.out, by omega, by omega, Below.refl _ _⟩
    case round =>
      obtain ⟨k, x, hk, rfl, rfl, hgood, hx2, hx3, hb⟩ := hrel
      have hz : w.heap.size + 1 ≤ wr.heap.size := by have := hb.size; simp at this; omega
      have q2 : wr.cell? ⟨w.heap.size, 2, none⟩ = some (.slice A l.length c) := (hb.cell (p := ⟨w.heap.size, 2, none⟩) (by simp)).trans (by go_simp)
      have hB2 := hB.trans (hb.mono (by simp))
      by_cases hlt' : k < done.length
      · obtain ⟨b1, off1, rfl, hbB1, d0⟩ := (H1.out.more (by omega)).below hb (Nat.le_refl _) k done[k] (List.getElem?_eq_getElem hlt')
        have hdr := HD.out done[k] (List.getElem_mem hlt')
        have hstep : (done.drop k).foldl (stepR l ow) x = (done.drop (k + 1)).foldl (stepR l ow) (stepR l ow x done[k]) := by
          rw [List.drop_eq_getElem_cons hlt']
          rfl
        have hgl : l[(done[k]).toNat]? = some l[(done[k]).toNat] := List.getElem?_eq_getElem (by omega)
        obtain ⟨b, off, rfl, hbB, c0, c1, c2, c3, c4⟩ := (Hs.out.more (by omega)).below hb (Nat.le_refl _) (done[k]).toNat _ hgl
        have hmm := HM.out _ (List.getElem_mem (show (done[k]).toNat < l.length by omega))
        have hsl := saleOf_eq hgl
        have hbd := stepR_bound (l := l) (ow := ow) (x := x) (d := done[k]) (M := 1000 + 2000 * (k : Int)) (by rw [hsl]; omega) (by rw [hsl]; omega) ⟨hx2, hx3⟩
        have hse : stepR l ow x done[k] = (let s := l[(done[k]).toNat]'(by omega); let y := if s.dst = ow then x + s.many else x; if s.src = ow then y - s.many else y) := by simp only [stepR, hsl]
        rw [hstep] at hgood
        have HG := Lib.hid hgood
        clear hgood hstep
        have hzz : w.heap.size < wr.heap.size := by omega
        have hbz : b < wr.heap.size := by omega
        have hbz1 : b1 < wr.heap.size := by omega
        clear hsl hgl
        generalize l[(done[k]).toNat] = s at *
        obtain ⟨sa, sb, sm, sx, sy⟩ := s
        simp only [] at c0 c1 c2 c3 c4 hmm hse
        generalize stepR l ow x done[k] = x' at *
        generalize done[k] = dk at *
        obtain ⟨dn, rfl⟩ : ∃ n : Nat, dk = n := ⟨dk.toNat, by omega⟩
        simp only [Int.toNat_natCast] at c0 c1 c2 c3 c4
        have hdn : dn < l.length := by omega
        have HSE := Lib.hid hse
        have HBD := Lib.hid hbd
        clear hse hbd hdr
        go_wp2_with fail
        go_region
        go_wp2_with fail
        all_goals
          refine ⟨⟨k + 1, x', by omega, ?_, by simp, HG.out, by have := HBD.out; push_cast; omega, by have := HBD.out; push_cast; omega, (hb.alloc hz _).drew⟩, by simp [intOf]; omega⟩
          rw [HSE.out]
          simp_all
      · obtain rfl : k = done.length := by omega
        have hgood' : res = x := by rw [hgood, List.drop_length]; rfl
        subst hgood'
        clear hgood
        go_wp2_with fail
        go_ret
        exact ⟨rfl, hB2⟩
end Go.Proofs.Ytfcnombmphophaa
