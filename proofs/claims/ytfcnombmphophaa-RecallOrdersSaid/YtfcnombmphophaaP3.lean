/- Texts for the laws of package recall, part 3: contracts of the program's functions, each for every input that its words name. -/
import Derived.Test.YtfcnombmphophaaP2
import Derived.ChangeKeysEq

set_option linter.unusedVariables false

namespace Go.Proofs.Ytfcnombmphophaa
open Go.RowKit Go.Shelf

set_option maxRecDepth 10000 in
set_option maxHeartbeats 1000000 in
theorem blame_in {Q : Exit → Act → World → Prop} {a : Act} {w W : World} {b1 many N c : Nat} {o t : Int} {A : Option Addr} {l : List Sale} {best : Value} (hv : Valid o t l) (hs : SalesAt w w.heap.size A l) (hN : N = 2 ^ l.length)
    (fr : FrB a b1 many l.length N 0 best false) (hlow : Below w.heap.size w W) (wb : Whole W b1 31 #[.int .i64 o, .int .i64 t, .slice A l.length c]) (hr : RI W best [])
    (hQ : ∀ a' W' best', FrB a' b1 many l.length N N best' (blameIn t l many N).2 → Below W.heap.size W W' → RI W' best' (blameIn t l many N).1 → Q .normal a' W') :
    (Code.block 2 (.loop round2B)).wpIn Fence.wide 5 Try.prog Q a W := by
  have hp8 : N ≤ 256 := by rw [hN]; exact pow_le hv.len
  refine wpIn_block (wpIn_loop (fun a W' => ∃ (d : Nat) (best : Value), d ≤ N ∧ FrB a b1 many l.length N d best (blameIn t l many d).2 ∧ Below W.heap.size W W' ∧ RI W' best (blameIn t l many d).1) (fun a _ => N - (intOf (a.eval (.tmp 26))).toNat) ⟨0, best, Nat.zero_le _, fr, Below.refl _ _, hr⟩ ?_)
  clear fr hr best a
  rintro a W1 ⟨d, best, hdN, fr, hb, hr⟩
  have hsz := fr.sz
  refine wpIn_seq (region_p 1 ?_)
  intro K hK
  refine ListK.bin (i := 0) (u := .int .i64 d) (u' := .int .i64 N) rfl fr.t26 fr.t25 (lss94 _) ?_
  refine ListK.done (hK _ _ ?_)
  clear hK K
  by_cases hlt : d < N
  · refine wpIn_seq (wpIn_cond (t := true) (by simp [hsz]; omega) (wpIn_skip ?_))
    refine wpIn_seq (tryB_wp (acc := blameIn t l many d) hv hs (by rw [← hN]; exact hlt) (blameIn_len d) (fr.of (by simp only [size_put, hsz]) (by simp only [defers_put]) ?_) (hlow.trans (hb.mono hlow.size)) (wb.below hb wb.lt) hr ?_)
    · rintro e (rfl | rfl | rfl | rfl | rfl | rfl | rfl | rfl) <;> simp
    intro a2 W2 best2 fr2 hb2 hr2
    have hz2 := fr2.sz
    have t7' : a2.eval (.tmp 7) = .bool (blameIn t l many (d + 1)).2 := fr2.t7
    have hmu : ∀ b : Act, b.eval (.tmp 26) = .int .i64 ((d + 1 : Nat) : Int) → N - (intOf (b.eval (.tmp 26))).toNat < N - (intOf (a.eval (.tmp 26))).toNat := by
      intro b e
      rw [e, fr.t26]
      simp only [intOf]
      omega
    refine region_p 2 ?_
    intro K hK
    refine ListK.bin (i := 0) (u := .int .i64 d) (u' := .int .i64 1) rfl fr2.t26 rfl (add94 (by omega) (by omega) _) ?_
    refine ListK.move (i := 1) (v := .int .i64 ((d + 1 : Nat) : Int)) rfl (by simp [hz2]) ?_
    exact ListK.done (hK _ _ ⟨⟨d + 1, best2, by omega, ⟨by simp only [size_put, hz2], by simp only [defers_put, fr2.df], (by simp [fr2.t1]), (by simp [fr2.t5]), (by simp [fr2.t6]), (by simp [t7']), (by simp [fr2.t18]), (by simp [fr2.t19]), (by simp [fr2.t25]), (by simp [hz2])⟩, hb.trans (hb2.mono hb.size), hr2⟩, hmu _ (by simp [hz2])⟩)
  · obtain rfl : d = N := by omega
    refine wpIn_seq (wpIn_cond (t := false) (by simp [hsz]) (wpIn_exit ?_))
    refine hQ _ _ best (fr.of (by simp only [size_put, hsz]) (by simp only [defers_put]) ?_) hb hr
    rintro e (rfl | rfl | rfl | rfl | rfl | rfl | rfl | rfl) <;> simp

/-- The frame of Blame in its outer loop. -/
structure FrC (a : Act) (b1 m n : Nat) (best : Value) : Prop where
  sz : a.tmps.size = 56
  df : a.defers = []
  t1 : a.eval (.tmp 1) = .pointer (some ⟨b1, 0, none⟩)
  t5 : a.eval (.tmp 5) = best
  t18 : a.eval (.tmp 18) = .int .i64 ((n + 1 : Nat) : Int)
  t19 : a.eval (.tmp 19) = .int .i64 m

set_option maxRecDepth 10000 in
set_option maxHeartbeats 1000000 in
theorem blame_out {Q : Exit → Act → World → Prop} {a : Act} {w W : World} {b1 c : Nat} {o t : Int} {A : Option Addr} {l : List Sale} (hv : Valid o t l) (hs : SalesAt w w.heap.size A l)
    (fr : FrC a b1 0 l.length (.slice none 0 0)) (hlow : Below w.heap.size w W) (wb : Whole W b1 31 #[.int .i64 o, .int .i64 t, .slice A l.length c])
    (hQ : ∀ a' W' best, a'.tmps.size = 56 → a'.defers = [] → a'.eval (.tmp 5) = best → Below W.heap.size W W' → RI W' best (blameL t l) → Q .normal a' W') :
    (Code.block 0 (.loop round1B)).wpIn Fence.wide 5 Try.prog Q a W := by
  have hl8 := hv.len
  refine wpIn_block (wpIn_loop (fun a W' => ∃ (m : Nat) (best : Value), m ≤ l.length + 1 ∧ FrC a b1 m l.length best ∧ Below W.heap.size W W' ∧ RI W' best [] ∧ blameL t l = blameGo t l (l.length + 1 - m) m) (fun a _ => l.length + 1 - (intOf (a.eval (.tmp 19))).toNat) ⟨0, _, Nat.zero_le _, fr, Below.refl _ _, RI.nil _, rfl⟩ ?_)
  clear fr a
  rintro a W1 ⟨m, best, hm, fr, hb, hr, hgo⟩
  have hsz := fr.sz
  refine wpIn_seq (region_p 1 ?_)
  intro K hK
  refine ListK.bin (i := 0) (u := .int .i64 m) (u' := .int .i64 ((l.length + 1 : Nat) : Int)) rfl fr.t19 fr.t18 (lss3 _) ?_
  refine ListK.done (hK _ _ ?_)
  clear hK K
  by_cases hlt : m < l.length + 1
  · refine wpIn_seq (wpIn_cond (t := true) (by simp [hsz]; omega) (wpIn_skip ?_))
    have hlow1 : Below w.heap.size w W1 := hlow.trans (hb.mono hlow.size)
    have wb1 := wb.below hb wb.lt
    obtain ⟨N, hN⟩ : ∃ N, N = 2 ^ l.length := ⟨_, rfl⟩
    refine wpIn_seq (wpIn_block (wpIn_seq (region_p 2 ?_)))
    intro K hK
    refine ListK.move (i := 0) (v := .int .i64 m) rfl (by simp [fr.t19]) ?_
    refine ListK.assign (i := 1) (v := .int .i64 m) rfl (by simp [hsz]) ?_
    refine ListK.done (hK _ _ ?_)
    clear hK K
    refine wpIn_seq (region_p 1 ?_)
    intro K hK
    refine ListK.assign (i := 0) (v := .bool false) rfl rfl ?_
    refine ListK.done (hK _ _ ?_)
    clear hK K
    refine wpIn_seq (wpIn_seq (region_p 5 ?_))
    intro K hK
    refine ListK.field (i := 0) (u := .pointer (some ⟨b1, 0, none⟩)) (v := .pointer (some ⟨b1, 2, none⟩)) rfl (by simp [fr.t1]) (fa31_2 _) ?_
    refine ListK.load (i := 1) (p := ⟨b1, 2, none⟩) (v := .slice A l.length c) rfl (by simp [hsz]) (ld29 (wb1.cell 2)) ?_
    refine ListK.len (i := 2) (u := .slice A l.length c) (v := .int .i64 l.length) rfl (by simp [hsz]) (ln29 _ _ _ _ _) rfl ?_
    refine ListK.bin (i := 3) (u := .int .i64 1) (u' := .int .i64 l.length) (v := .int .i64 ((2 ^ l.length : Nat) : Int)) rfl rfl (by simp [hsz]) (sh94 (by omega) _) ?_
    refine ListK.move (i := 4) (v := .int .i64 0) rfl rfl ?_
    refine ListK.done (hK _ _ ?_)
    clear hK K
    rw [← hN]
    refine blame_in (many := m) (N := N) (best := best) hv hs hN ⟨by simp only [size_put, hsz], by simp only [defers_put, fr.df], (by simp [fr.t1]), (by simp [fr.t5]), (by simp [hsz]), (by simp [hsz]), (by simp [fr.t18]), (by simp [fr.t19]), (by simp [hsz]), (by simp [hsz])⟩ hlow1 wb1 hr ?_
    intro a2 W2 best2 fr2 hb2 hr2
    have hz2 := fr2.sz
    have hgo2 : blameL t l = if (blameIn t l m N).2 = true then (blameIn t l m N).1 else blameGo t l (l.length + 1 - (m + 1)) (m + 1) := by
      rw [hgo, show l.length + 1 - m = (l.length + 1 - (m + 1)) + 1 by omega, blameGo, ← hN]
    refine wpIn_seq (region_p 1 ?_)
    intro K hK
    refine ListK.move (i := 0) (v := .bool (blameIn t l m N).2) rfl fr2.t7 ?_
    refine ListK.done (hK _ _ ?_)
    clear hK K
    have hW2 : Below W.heap.size W W2 := hb.trans (hb2.mono hb.size)
    cases hfd : (blameIn t l m N).2 with
    | true =>
      refine wpIn_cond (t := true) (by simp [hz2]) (wpIn_exit ?_)
      rw [hfd, if_pos rfl] at hgo2
      refine hQ _ _ best2 (by simp only [size_put, hz2]) (by simp only [defers_put, fr2.df]) (by simp [fr2.t5]) hW2 ?_
      rw [hgo2]
      exact hr2
    | false =>
      refine wpIn_cond (t := false) (by simp [hz2]) (wpIn_skip ?_)
      rw [hfd, if_neg (by simp)] at hgo2
      rw [blameIn_nil N hfd] at hr2
      have hmu : ∀ b : Act, b.eval (.tmp 19) = .int .i64 ((m + 1 : Nat) : Int) → l.length + 1 - (intOf (b.eval (.tmp 19))).toNat < l.length + 1 - (intOf (a.eval (.tmp 19))).toNat := by
        intro b e
        rw [e, fr.t19]
        simp only [intOf]
        omega
      refine region_p 2 ?_
      intro K hK
      refine ListK.bin (i := 0) (u := .int .i64 m) (u' := .int .i64 1) rfl (by simp [fr2.t19]) rfl (add3 (by omega) (by omega) _) ?_
      refine ListK.move (i := 1) (v := .int .i64 ((m + 1 : Nat) : Int)) rfl (by simp [hz2]) ?_
      exact ListK.done (hK _ _ ⟨⟨m + 1, best2, by omega, ⟨by simp only [size_put, hz2], by simp only [defers_put, fr2.df], (by simp [fr2.t1]), (by simp [fr2.t5]), (by simp [fr2.t18]), (by simp [hz2])⟩, hW2, hr2, hgo2⟩, hmu _ (by simp [hz2])⟩)
  · obtain rfl : m = l.length + 1 := by omega
    refine wpIn_seq (wpIn_cond (t := false) (by simp [hsz]) (wpIn_exit ?_))
    refine hQ _ _ best (by simp only [size_put, hsz]) (by simp only [defers_put, fr.df]) (by simp [fr.t5]) hb ?_
    rw [hgo, Nat.sub_self]
    exact hr

def blameV (o t : Int) (l : List Sale) : List Int := if fault o t l = 0 then blameL t l else []
theorem res2 {fn : Func} {i j : Nat} {W : World} {a : Act} {x y : Value} (h : fn.results = #[.tmp i, .tmp j]) (hi : a.eval (.tmp i) = x) (hj : a.eval (.tmp j) = y) :
    (results fn a.tmps).run Try.prog W = .ok (.tuple #[x, y]) W := by
  have e1 : a.tmps[i]?.getD undef = x := by simpa [Act.eval] using hi
  have e2 : a.tmps[j]?.getD undef = y := by simpa [Act.eval] using hj
  simp [results, h, e1, e2]

abbrev BP (W : World) (o t : Int) (l : List Sale) : Ending → World → Prop := fun e w' => ∃ v, e = .returned (.tuple #[v, .int .i64 (fault o t l)]) ∧ RI w' v (blameV o t l) ∧ Below W.heap.size W w'

set_option maxRecDepth 10000 in
set_option maxHeartbeats 1000000 in
theorem blame_any (o t : Int) (A : Option Addr) (l : List Sale) (c : Nat) (W : World) (hl : l.length ≤ 1000000) (hs : SalesAt W W.heap.size A l) :
    Calls Try.prog 24 #[.agg #[.int .i64 o, .int .i64 t, .slice A l.length c]] W (BP W o t l) := by
  refine (callsIn_wide (n := 5)).1 (callsIn_of_wp Try.func24 body24 trivial ?_ rfl)
  obtain ⟨a, ha⟩ : ∃ a : Act, a = { tmps := #[.agg #[.int .i64 o, .int .i64 t, .slice A l.length c]] ++ Array.replicate (Try.f24.ntmps - (#[.agg #[.int .i64 o, .int .i64 t, .slice A l.length c]] : Array Value).size) undef, defers := [] } := ⟨_, rfl⟩
  have hsz : a.tmps.size = 56 := by rw [ha]; simp [Try.ntmps24]
  have t0 : a.eval (.tmp 0) = .agg #[.int .i64 o, .int .i64 t, .slice A l.length c] := by rw [ha]; simp [Act.eval]
  have hdf : a.defers = [] := by rw [ha]
  rw [← ha]
  clear ha
  unfold code24
  refine wpIn_seq (region_p 3 ?_)
  intro K hK
  refine ListK.box (i := 0) (u := .agg #[.int .i64 o, .int .i64 t, .slice A l.length c]) rfl t0 (bx31 W _ _ _ _ _) ?_
  refine ListK.assign (i := 1) (v := .slice none 0 0) rfl rfl ?_
  refine ListK.assign (i := 2) (v := .int .i64 0) rfl rfl ?_
  refine ListK.done (hK _ _ ?_)
  clear hK K
  have wb := Whole.new W 31 #[.int .i64 o, .int .i64 t, .slice A l.length c]
  have hB1 : Below W.heap.size W (W.alloc (.cells #[.int .i64 o, .int .i64 t, .slice A l.length c] 31)) := (Below.refl _ W).alloc (Nat.le_refl _) _
  generalize W.alloc (.cells #[.int .i64 o, .int .i64 t, .slice A l.length c] 31) = W1 at *
  refine wpIn_wide.2 (wp_scope_straight ((wpIn_wide (n := 5)).1 ?_))
  refine wpIn_mono (Q := bodyPost Try.prog Try.f24 (BP W o t l)) ?_ (fun e a w h => by cases e <;> first | exact h | exact h.elim)
  refine wpIn_seq (wpIn_seq (region_p 3 ?_))
  intro K hK
  refine ListK.load (i := 0) (p := ⟨W.heap.size, 0, none⟩) (v := .agg #[.int .i64 o, .int .i64 t, .slice A l.length c]) rfl (by simp [hsz]) (ld31' ⟨wb.cell 0, wb.cell 1, wb.cell 2⟩) ?_
  refine ListK.call (i := 1) (vs := #[.agg #[.int .i64 o, .int .i64 t, .slice A l.length c]]) rfl (enters_of Try.func17 (by kernel_rfl) rfl) (by simp [hsz]) ((checkBatch_any o t A l c W1 hl ((hs.below hB1 (Nat.le_refl _)).more hB1.size)).mono ?_)
  rintro _ W2 ⟨rfl, hb2⟩
  refine ⟨_, rfl, ?_⟩
  refine ListK.assign (i := 2) (v := .int .i64 (fault o t l)) rfl (by simp [hsz]) ?_
  refine ListK.done (hK _ _ ?_)
  clear hK K
  have wb2 := wb.below hb2 wb.lt
  have hB2 : Below W.heap.size W W2 := hB1.trans (hb2.mono hB1.size)
  refine wpIn_seq (region_p 2 ?_)
  intro K hK
  refine ListK.move (i := 0) (v := .int .i64 (fault o t l)) rfl (by simp [hsz]) ?_
  refine ListK.bin (i := 1) (u := .int .i64 (fault o t l)) (u' := .int .i64 0) rfl (by simp [hsz]) rfl (neq27 _) ?_
  refine ListK.done (hK _ _ ?_)
  clear hK K
  by_cases h0 : fault o t l = 0
  · refine wpIn_cond (t := false) (by simp [hsz, h0]) (wpIn_skip ?_)
    have hv := valid_of_fault h0
    have hl8 := hv.len
    have hV : blameV o t l = blameL t l := by simp [blameV, h0]
    refine wpIn_seq (region_p 1 ?_)
    intro K hK
    refine ListK.assign (i := 0) (v := .slice none 0 0) rfl rfl ?_
    refine ListK.done (hK _ _ ?_)
    clear hK K
    refine wpIn_seq (wpIn_label ?_)
    refine wpIn_seq (wpIn_seq (region_p 5 ?_))
    intro K hK
    refine ListK.field (i := 0) (u := .pointer (some ⟨W.heap.size, 0, none⟩)) (v := .pointer (some ⟨W.heap.size, 2, none⟩)) rfl (by simp [hsz]) (fa31_2 _) ?_
    refine ListK.load (i := 1) (p := ⟨W.heap.size, 2, none⟩) (v := .slice A l.length c) rfl (by simp [hsz]) (ld29 (wb2.cell 2)) ?_
    refine ListK.len (i := 2) (u := .slice A l.length c) (v := .int .i64 l.length) rfl (by simp [hsz]) (ln29 _ _ _ _ _) rfl ?_
    refine ListK.bin (i := 3) (u := .int .i64 l.length) (u' := .int .i64 1) (v := .int .i64 ((l.length + 1 : Nat) : Int)) rfl (by simp [hsz]) rfl (add3 (by omega) (by omega) _) ?_
    refine ListK.move (i := 4) (v := .int .i64 0) rfl rfl ?_
    refine ListK.done (hK _ _ ?_)
    clear hK K
    refine blame_out (b1 := W.heap.size) (c := c) hv hs ⟨by simp only [size_put, hsz], by simp only [defers_put, hdf], (by simp [hsz]), (by simp [hsz]), (by simp [hsz]), (by simp [hsz])⟩ hB2 wb2 ?_
    intro a3 W3 best hz3 hd3 v5 hb3 hr3
    refine wpIn_seq (region_p 3 ?_)
    intro K hK
    refine ListK.move (i := 0) (v := best) rfl v5 ?_
    refine ListK.assign (i := 1) (v := best) rfl (by simp [hz3]) ?_
    refine ListK.assign (i := 2) (v := .int .i64 0) rfl rfl ?_
    refine ListK.done (hK _ _ (wpIn_ret ?_))
    show bodyPost Try.prog Try.f24 (BP W o t l) Exit.ret _ _
    refine bodyPost_ret (v := .tuple #[best, .int .i64 0]) (res2 Try.results24 (by simp [hz3]) (by simp [hz3])) (by simp only [defers_put, hd3]) ⟨best, by rw [h0], by rw [hV]; exact hr3, hB2.trans (hb3.mono hB2.size)⟩
  · refine wpIn_cond (t := true) (by simp [hsz, h0]) ?_
    have hV : blameV o t l = [] := by simp [blameV, h0]
    refine wpIn_seq (region_p 3 ?_)
    intro K hK
    refine ListK.move (i := 0) (v := .int .i64 (fault o t l)) rfl (by simp [hsz]) ?_
    refine ListK.assign (i := 1) (v := .slice none 0 0) rfl rfl ?_
    refine ListK.assign (i := 2) (v := .int .i64 (fault o t l)) rfl (by simp [hsz]) ?_
    refine ListK.done (hK _ _ (wpIn_ret ?_))
    show bodyPost Try.prog Try.f24 (BP W o t l) Exit.ret _ _
    exact bodyPost_ret (v := .tuple #[.slice none 0 0, .int .i64 (fault o t l)]) (res2 Try.results24 (by simp [hsz]) (by simp [hsz])) (by simp only [defers_put, hdf]) ⟨_, rfl, by rw [hV]; exact RI.nil _, hB2⟩
end Go.Proofs.Ytfcnombmphophaa

namespace Go.Proofs.Ytfcnombmphophaa
open Go.RowKit Go.Shelf
theorem AnyK.un {P : Program} {ops : Array Oper} {K : Act → World → Prop} {Kp : Nat → World → World → Prop} {fuel : Nat} {listed : Array Bool} {a : Act} {w : World} {i d : Nat} {ty : TypeId} {pos : String} {aft : Array Edge} {gd : Option (Nat × Bool)}
    {R : World → Prop} {T : Nat → Bool} {b : UnOp} {t : TypeId} {x : Operand} {u v : Value} (m : May ops Kp listed R T i ⟨some d, .unOp b t x, ty, pos, aft, gd⟩)
    (hx : a.eval x = u) (hv : ∀ w, (Op.unary b u).run P w = .ok v w) (hS : R w)
    (h : AnyK P ops K Kp fuel (listed.setIfInBounds i true) (a.put (some d) v) w) (hw : Region.wanted ⟨some d, .unOp b t x, ty, pos, aft, gd⟩ (yielded ops a.tmps) = true := by rfl) : AnyK P ops K Kp (fuel + 1) listed a w :=
  AnyK.take m (.inl ⟨hw, fun w' _ => by simp [execOp, hx, hv w']⟩) hS h
theorem ix25o {b o n c i : Nat} (h : i < n) (w : World) : (Instr.indexAt 25 (.slice (some ⟨b, o, none⟩) n c) (.int .i64 i)).run Try.prog w = .ok (.pointer (some ⟨b, o + i, none⟩)) w := by
  go_simp
theorem ix84a {b : Nat} {i : Int} (h0 : 0 ≤ i) (h : i < 6) (w : World) : (Instr.indexAt 84 (.pointer (some ⟨b, 0, none⟩)) (.int .i64 i)).run Try.prog w = .ok (.pointer (some ⟨b, i.toNat, none⟩)) w := by
  have : i = 0 ∨ i = 1 ∨ i = 2 ∨ i = 3 ∨ i = 4 ∨ i = 5 := by omega
  rcases this with rfl | rfl | rfl | rfl | rfl | rfl <;> go_simp
theorem ix82a {b i : Nat} (h : i < 8) (w : World) : (Instr.indexAt 82 (.pointer (some ⟨b, 0, none⟩)) (.int .i64 i)).run Try.prog w = .ok (.pointer (some ⟨b, i, none⟩)) w := by
  go_simp
  intro h2
  omega
theorem ld4 {w : World} {p : Addr} {v : Value} (h : w.cell? p = some v) : (Instr.loadAt 4 (.pointer (some p))).run Try.prog w = .ok v w := by
  go_simp
theorem st4 {w : World} {p : Addr} {v : Value} {u : Bool} (h : w.cell? p = some v) (hf : w.frozen? p = false) : (Instr.storeAt 4 (.pointer (some p)) (.bool u)).run Try.prog w = .ok () (w.setCell p (.bool u)) := by
  go_simp
theorem lssT {x y : Operand} {m n : Int} (h : m < n) (w : World) : (do eqGuard .lss 3 x y (.int .i64 m) (.int .i64 n); binOp .lss 3 (.int .i64 m) (.int .i64 n) : Sem Value).run Try.prog w = .ok (.bool true) w := by
  rw [lss3 w]
  simp [h]
theorem lssF {x y : Operand} {m n : Int} (h : ¬ m < n) (w : World) : (do eqGuard .lss 3 x y (.int .i64 m) (.int .i64 n); binOp .lss 3 (.int .i64 m) (.int .i64 n) : Sem Value).run Try.prog w = .ok (.bool false) w := by
  rw [lss3 w]
  simp [h]
theorem ld84 {w : World} {b : Nat} {st : Nat → Int} (h : Whole w b 84 (stk st)) : (Instr.loadAt 84 (.pointer (some ⟨b, 0, none⟩))).run Try.prog w = .ok (.agg (stk st)) w := by
  obtain ⟨h0, h1, h2, h3, h4, h5⟩ := h.six
  unfold stk
  go_simp
theorem st84 {w : World} {b : Nat} {st st2 : Nat → Int} (h : Whole w b 84 (stk st)) : (Instr.storeAt 84 (.pointer (some ⟨b, 0, none⟩)) (.agg (stk st2))).run Try.prog w = .ok () (put6 w b st2) := by
  obtain ⟨h0, h1, h2, h3, h4, h5⟩ := h.six
  obtain ⟨f0, f1, f2, f3, f4, f5⟩ := h.ice
  unfold stk
  go_simp
attribute [local irreducible] AnyK StepK

noncomputable def opsP12a : Array Oper := (Try.f19.body.bind (regionOf 12)).getD #[]
set_option maxRecDepth 10000 in
set_option maxHeartbeats 2000000 in
theorem regionP12a {F : Fence} {n : Nat} (hF : WideF F Try.prog) {Q : Exit → Act → World → Prop} {a : Act} {w : World} {bd m cd od k bx b8 : Nat} {dn lo hi src many sv last : Int} (hsz : a.tmps.size = 96)
    (t2 : a.eval (.tmp 2) = .slice (some ⟨bd, od, none⟩) m cd) (t11 : a.eval (.tmp 11) = .int .i64 k) (t12 : a.eval (.tmp 12) = .pointer (some ⟨bx, 0, none⟩)) (t8 : a.eval (.tmp 8) = .pointer (some ⟨b8, 0, none⟩)) (t9 : a.eval (.tmp 9) = .int .i64 last)
    (m0 : w.cell? ⟨bd, od + k, none⟩ = some (.int .i64 dn)) (m1 : w.cell? ⟨bx, 3, none⟩ = some (.int .i64 lo)) (m2 : w.cell? ⟨bx, 4, none⟩ = some (.int .i64 hi)) (m3 : w.cell? ⟨bx, 0, none⟩ = some (.int .i64 src)) (m4 : w.cell? ⟨bx, 2, none⟩ = some (.int .i64 many)) (m5 : w.cell? ⟨b8, src.toNat, none⟩ = some (.int .i64 sv)) (hn : k < m) (hs0 : 0 ≤ src) (hs6 : src < 6) (hin : inR dn lo hi = false) 
    (hK : ∀ a', a'.tmps.size = 96 → a'.defers = a.defers → a'.eval (.tmp 87) = .bool true → (∀ e : Nat, e < 59 ∨ 88 ≤ e → a'.eval (.tmp e) = a.eval (.tmp e)) → Q .normal a' w.drew) :
    (Code.region 12 opsP12a true).wpIn F n Try.prog Q a w := by
  have hR : (fun w : World => w.cell? ⟨bd, od + k, none⟩ = some (.int .i64 dn) ∧ w.cell? ⟨bx, 3, none⟩ = some (.int .i64 lo) ∧ w.cell? ⟨bx, 4, none⟩ = some (.int .i64 hi) ∧ w.cell? ⟨bx, 0, none⟩ = some (.int .i64 src) ∧ w.cell? ⟨bx, 2, none⟩ = some (.int .i64 many) ∧ w.cell? ⟨b8, src.toNat, none⟩ = some (.int .i64 sv)) w.drew := ⟨m0, m1, m2, m3, m4, m5⟩
  have hB : Below w.heap.size w w.drew := (Below.refl _ _).drew
  refine region_K (KpR (fun w => w.cell? ⟨bd, od + k, none⟩ = some (.int .i64 dn) ∧ w.cell? ⟨bx, 3, none⟩ = some (.int .i64 lo) ∧ w.cell? ⟨bx, 4, none⟩ = some (.int .i64 hi) ∧ w.cell? ⟨bx, 0, none⟩ = some (.int .i64 src) ∧ w.cell? ⟨bx, 2, none⟩ = some (.int .i64 many) ∧ w.cell? ⟨b8, src.toNat, none⟩ = some (.int .i64 sv)) (fun _ => false)) hF (by kernel_rfl) Try.mixed ?_
  change AnyK _ _ _ _ 29 (Array.replicate 29 false) _ _
  clear hB
  generalize w.drew = W at *
  refine AnyK.move (i := 0) may_o (v := .slice (some ⟨bd, od, none⟩) m cd) (by simp [t2]) hR ?_
  refine AnyK.move (i := 1) may_o (v := .int .i64 k) (by simp [t11]) hR ?_
  refine AnyK.index (i := 2) may_o (u := .slice (some ⟨bd, od, none⟩) m cd) (u' := .int .i64 k) (v := .pointer (some ⟨bd, od + k, none⟩)) (by simp [hsz]) (by simp [hsz]) (fun w => ix25o hn w) hR ?_
  refine AnyK.load (i := 3) may_o (p := ⟨bd, od + k, none⟩) (v := .int .i64 dn) (by simp [hsz]) (fun w hw => ld3 hw.1) hR ?_
  refine AnyK.field (i := 4) may_o (u := .pointer (some ⟨bx, 0, none⟩)) (v := .pointer (some ⟨bx, 3, none⟩)) (by simp [t12]) (fun w => fa61_3 w) hR ?_
  refine AnyK.field (i := 5) may_o (u := .pointer (some ⟨bx, 3, none⟩)) (v := .pointer (some ⟨bx, 3, none⟩)) (by simp [hsz]) (fun w => fa46_0 w) hR ?_
  refine AnyK.load (i := 6) may_o (p := ⟨bx, 3, none⟩) (v := .int .i64 lo) (by simp [hsz]) (fun w hw => ld3 hw.2.1) hR ?_
  refine AnyK.field (i := 7) may_o (u := .pointer (some ⟨bx, 0, none⟩)) (v := .pointer (some ⟨bx, 3, none⟩)) (by simp [t12]) (fun w => fa61_3 w) hR ?_
  refine AnyK.field (i := 8) may_o (u := .pointer (some ⟨bx, 3, none⟩)) (v := .pointer (some ⟨bx, 4, none⟩)) (by simp [hsz]) (fun w => fa46_1 w) hR ?_
  refine AnyK.load (i := 9) may_o (p := ⟨bx, 4, none⟩) (v := .int .i64 hi) (by simp [hsz]) (fun w hw => ld3 hw.2.2.1) hR ?_
  refine AnyK.pick1 (i := 10) (by kernel_rfl) ?_
  refine StepK.call (i := 10) (f := 47) (vs := #[.int .i64 dn, .int .i64 lo, .int .i64 hi]) rfl (enters_of Try.func47 (by kernel_rfl) rfl) (by simp) (by simp [hsz]) ((within_at hin).mono ?_)
  rintro _ _ ⟨rfl, rfl⟩
  refine ⟨_, rfl, fun _ h => h, ?_⟩
  refine AnyK.un (i := 11) may_o (u := .bool false) (v := .bool true) (by simp [hsz]) (fun w => by simp [Op.unary]) hR ?_
  refine AnyK.move (i := 12) may_o (v := .bool true) (by simp [hsz]) hR ?_
  refine AnyK.passG (i := 13) may_o (e := 71) (b' := true) rfl (by simp [hsz]) rfl hR ?_
  refine AnyK.passG (i := 14) may_o (e := 71) (b' := true) rfl (by simp [hsz]) rfl hR ?_
  refine AnyK.passG (i := 15) may_o (e := 71) (b' := true) rfl (by simp [hsz]) rfl hR ?_
  refine AnyK.passG (i := 16) may_o (e := 71) (b' := true) rfl (by simp [hsz]) rfl hR ?_
  refine AnyK.passG (i := 17) may_o (e := 71) (b' := true) rfl (by simp [hsz]) rfl hR ?_
  refine AnyK.passG (i := 18) may_o (e := 71) (b' := true) rfl (by simp [hsz]) rfl hR ?_
  refine AnyK.pick (i := 19) may_o (b := true) (v := .bool true) (by simp [hsz]) (by simp) hR ?_
  refine AnyK.move (i := 20) may_o (v := .bool true) (by simp [hsz]) hR ?_
  refine AnyK.passG (i := 21) may_o (e := 79) (b' := true) rfl (by simp [hsz]) rfl hR ?_
  refine AnyK.passG (i := 22) may_o (e := 79) (b' := true) rfl (by simp [hsz]) rfl hR ?_
  refine AnyK.passG (i := 23) may_o (e := 79) (b' := true) rfl (by simp [hsz]) rfl hR ?_
  refine AnyK.passG (i := 24) may_o (e := 79) (b' := true) rfl (by simp [hsz]) rfl hR ?_
  refine AnyK.passG (i := 25) may_o (e := 79) (b' := true) rfl (by simp [hsz]) rfl hR ?_
  refine AnyK.passG (i := 26) may_o (e := 79) (b' := true) rfl (by simp [hsz]) rfl hR ?_
  refine AnyK.passG (i := 27) may_o (e := 79) (b' := true) rfl (by simp [hsz]) rfl hR ?_
  refine AnyK.pick (i := 28) may_o (b := true) (v := .bool true) (by simp [hsz]) (by simp) hR ?_
  refine AnyK.done (by kernel_rfl) (hK _ ?_ ?_ ?_ ?_)
  · simp only [size_put, hsz]
  · simp only [defers_put]
  · exact (by simp [hsz])
  · intro e he
    iterate 29 refine (ev_ne (by omega)).trans ?_
    rfl

noncomputable def opsP12b : Array Oper := (Try.f19.body.bind (regionOf 12)).getD #[]
set_option maxRecDepth 10000 in
set_option maxHeartbeats 2000000 in
theorem regionP12b {F : Fence} {n : Nat} (hF : WideF F Try.prog) {Q : Exit → Act → World → Prop} {a : Act} {w : World} {bd m cd od k bx b8 : Nat} {dn lo hi src many sv last : Int} (hsz : a.tmps.size = 96)
    (t2 : a.eval (.tmp 2) = .slice (some ⟨bd, od, none⟩) m cd) (t11 : a.eval (.tmp 11) = .int .i64 k) (t12 : a.eval (.tmp 12) = .pointer (some ⟨bx, 0, none⟩)) (t8 : a.eval (.tmp 8) = .pointer (some ⟨b8, 0, none⟩)) (t9 : a.eval (.tmp 9) = .int .i64 last)
    (m0 : w.cell? ⟨bd, od + k, none⟩ = some (.int .i64 dn)) (m1 : w.cell? ⟨bx, 3, none⟩ = some (.int .i64 lo)) (m2 : w.cell? ⟨bx, 4, none⟩ = some (.int .i64 hi)) (m3 : w.cell? ⟨bx, 0, none⟩ = some (.int .i64 src)) (m4 : w.cell? ⟨bx, 2, none⟩ = some (.int .i64 many)) (m5 : w.cell? ⟨b8, src.toNat, none⟩ = some (.int .i64 sv)) (hn : k < m) (hs0 : 0 ≤ src) (hs6 : src < 6) (hin : inR dn lo hi = true) (hlt : dn < last)
    (hK : ∀ a', a'.tmps.size = 96 → a'.defers = a.defers → a'.eval (.tmp 87) = .bool true → (∀ e : Nat, e < 59 ∨ 88 ≤ e → a'.eval (.tmp e) = a.eval (.tmp e)) → Q .normal a' w.drew) :
    (Code.region 12 opsP12b true).wpIn F n Try.prog Q a w := by
  have hR : (fun w : World => w.cell? ⟨bd, od + k, none⟩ = some (.int .i64 dn) ∧ w.cell? ⟨bx, 3, none⟩ = some (.int .i64 lo) ∧ w.cell? ⟨bx, 4, none⟩ = some (.int .i64 hi) ∧ w.cell? ⟨bx, 0, none⟩ = some (.int .i64 src) ∧ w.cell? ⟨bx, 2, none⟩ = some (.int .i64 many) ∧ w.cell? ⟨b8, src.toNat, none⟩ = some (.int .i64 sv)) w.drew := ⟨m0, m1, m2, m3, m4, m5⟩
  have hB : Below w.heap.size w w.drew := (Below.refl _ _).drew
  refine region_K (KpR (fun w => w.cell? ⟨bd, od + k, none⟩ = some (.int .i64 dn) ∧ w.cell? ⟨bx, 3, none⟩ = some (.int .i64 lo) ∧ w.cell? ⟨bx, 4, none⟩ = some (.int .i64 hi) ∧ w.cell? ⟨bx, 0, none⟩ = some (.int .i64 src) ∧ w.cell? ⟨bx, 2, none⟩ = some (.int .i64 many) ∧ w.cell? ⟨b8, src.toNat, none⟩ = some (.int .i64 sv)) (fun _ => false)) hF (by kernel_rfl) Try.mixed ?_
  change AnyK _ _ _ _ 29 (Array.replicate 29 false) _ _
  clear hB
  generalize w.drew = W at *
  refine AnyK.move (i := 0) may_o (v := .slice (some ⟨bd, od, none⟩) m cd) (by simp [t2]) hR ?_
  refine AnyK.move (i := 1) may_o (v := .int .i64 k) (by simp [t11]) hR ?_
  refine AnyK.index (i := 2) may_o (u := .slice (some ⟨bd, od, none⟩) m cd) (u' := .int .i64 k) (v := .pointer (some ⟨bd, od + k, none⟩)) (by simp [hsz]) (by simp [hsz]) (fun w => ix25o hn w) hR ?_
  refine AnyK.load (i := 3) may_o (p := ⟨bd, od + k, none⟩) (v := .int .i64 dn) (by simp [hsz]) (fun w hw => ld3 hw.1) hR ?_
  refine AnyK.field (i := 4) may_o (u := .pointer (some ⟨bx, 0, none⟩)) (v := .pointer (some ⟨bx, 3, none⟩)) (by simp [t12]) (fun w => fa61_3 w) hR ?_
  refine AnyK.field (i := 5) may_o (u := .pointer (some ⟨bx, 3, none⟩)) (v := .pointer (some ⟨bx, 3, none⟩)) (by simp [hsz]) (fun w => fa46_0 w) hR ?_
  refine AnyK.load (i := 6) may_o (p := ⟨bx, 3, none⟩) (v := .int .i64 lo) (by simp [hsz]) (fun w hw => ld3 hw.2.1) hR ?_
  refine AnyK.field (i := 7) may_o (u := .pointer (some ⟨bx, 0, none⟩)) (v := .pointer (some ⟨bx, 3, none⟩)) (by simp [t12]) (fun w => fa61_3 w) hR ?_
  refine AnyK.field (i := 8) may_o (u := .pointer (some ⟨bx, 3, none⟩)) (v := .pointer (some ⟨bx, 4, none⟩)) (by simp [hsz]) (fun w => fa46_1 w) hR ?_
  refine AnyK.load (i := 9) may_o (p := ⟨bx, 4, none⟩) (v := .int .i64 hi) (by simp [hsz]) (fun w hw => ld3 hw.2.2.1) hR ?_
  refine AnyK.pick1 (i := 10) (by kernel_rfl) ?_
  refine StepK.call (i := 10) (f := 47) (vs := #[.int .i64 dn, .int .i64 lo, .int .i64 hi]) rfl (enters_of Try.func47 (by kernel_rfl) rfl) (by simp) (by simp [hsz]) ((within_at hin).mono ?_)
  rintro _ _ ⟨rfl, rfl⟩
  refine ⟨_, rfl, fun _ h => h, ?_⟩
  refine AnyK.un (i := 11) may_o (u := .bool true) (v := .bool false) (by simp [hsz]) (fun w => by simp [Op.unary]) hR ?_
  refine AnyK.move (i := 12) may_o (v := .bool false) (by simp [hsz]) hR ?_
  refine AnyK.move (i := 13) may_o (v := .slice (some ⟨bd, od, none⟩) m cd) (by simp [t2]) hR (hw := (by exact wanted_g (e := 71) (b' := false) rfl (by simp [hsz]) rfl)) ?_
  refine AnyK.move (i := 14) may_o (v := .int .i64 k) (by simp [t11]) hR (hw := (by exact wanted_g (e := 71) (b' := false) rfl (by simp [hsz]) rfl)) ?_
  refine AnyK.index (i := 15) may_o (u := .slice (some ⟨bd, od, none⟩) m cd) (u' := .int .i64 k) (v := .pointer (some ⟨bd, od + k, none⟩)) (by simp [hsz]) (by simp [hsz]) (fun w => ix25o hn w) hR (hw := (by exact wanted_g (e := 71) (b' := false) rfl (by simp [hsz]) rfl)) ?_
  refine AnyK.load (i := 16) may_o (p := ⟨bd, od + k, none⟩) (v := .int .i64 dn) (by simp [hsz]) (fun w hw => ld3 hw.1) hR (hw := (by exact wanted_g (e := 71) (b' := false) rfl (by simp [hsz]) rfl)) ?_
  refine AnyK.move (i := 17) may_o (v := .int .i64 last) (by simp [t9]) hR (hw := (by exact wanted_g (e := 71) (b' := false) rfl (by simp [hsz]) rfl)) ?_
  refine AnyK.bin (i := 18) may_o (u := .int .i64 dn) (u' := .int .i64 last) (v := .bool true) (by simp [hsz]) (by simp [hsz]) (fun w => lssT hlt w) hR (hw := (by exact wanted_g (e := 71) (b' := false) rfl (by simp [hsz]) rfl)) ?_
  refine AnyK.pick (i := 19) may_o (b := false) (v := .bool true) (by simp [hsz]) (by simp [hsz]) hR ?_
  refine AnyK.move (i := 20) may_o (v := .bool true) (by simp [hsz]) hR ?_
  refine AnyK.passG (i := 21) may_o (e := 79) (b' := true) rfl (by simp [hsz]) rfl hR ?_
  refine AnyK.passG (i := 22) may_o (e := 79) (b' := true) rfl (by simp [hsz]) rfl hR ?_
  refine AnyK.passG (i := 23) may_o (e := 79) (b' := true) rfl (by simp [hsz]) rfl hR ?_
  refine AnyK.passG (i := 24) may_o (e := 79) (b' := true) rfl (by simp [hsz]) rfl hR ?_
  refine AnyK.passG (i := 25) may_o (e := 79) (b' := true) rfl (by simp [hsz]) rfl hR ?_
  refine AnyK.passG (i := 26) may_o (e := 79) (b' := true) rfl (by simp [hsz]) rfl hR ?_
  refine AnyK.passG (i := 27) may_o (e := 79) (b' := true) rfl (by simp [hsz]) rfl hR ?_
  refine AnyK.pick (i := 28) may_o (b := true) (v := .bool true) (by simp [hsz]) (by simp) hR ?_
  refine AnyK.done (by kernel_rfl) (hK _ ?_ ?_ ?_ ?_)
  · simp only [size_put, hsz]
  · simp only [defers_put]
  · exact (by simp [hsz])
  · intro e he
    iterate 29 refine (ev_ne (by omega)).trans ?_
    rfl

noncomputable def opsP12c : Array Oper := (Try.f19.body.bind (regionOf 12)).getD #[]
set_option maxRecDepth 10000 in
set_option maxHeartbeats 2000000 in
theorem regionP12c {F : Fence} {n : Nat} (hF : WideF F Try.prog) {Q : Exit → Act → World → Prop} {a : Act} {w : World} {bd m cd od k bx b8 : Nat} {dn lo hi src many sv last : Int} (hsz : a.tmps.size = 96)
    (t2 : a.eval (.tmp 2) = .slice (some ⟨bd, od, none⟩) m cd) (t11 : a.eval (.tmp 11) = .int .i64 k) (t12 : a.eval (.tmp 12) = .pointer (some ⟨bx, 0, none⟩)) (t8 : a.eval (.tmp 8) = .pointer (some ⟨b8, 0, none⟩)) (t9 : a.eval (.tmp 9) = .int .i64 last)
    (m0 : w.cell? ⟨bd, od + k, none⟩ = some (.int .i64 dn)) (m1 : w.cell? ⟨bx, 3, none⟩ = some (.int .i64 lo)) (m2 : w.cell? ⟨bx, 4, none⟩ = some (.int .i64 hi)) (m3 : w.cell? ⟨bx, 0, none⟩ = some (.int .i64 src)) (m4 : w.cell? ⟨bx, 2, none⟩ = some (.int .i64 many)) (m5 : w.cell? ⟨b8, src.toNat, none⟩ = some (.int .i64 sv)) (hn : k < m) (hs0 : 0 ≤ src) (hs6 : src < 6) (hin : inR dn lo hi = true) (hlt : ¬ dn < last)
    (hK : ∀ a', a'.tmps.size = 96 → a'.defers = a.defers → a'.eval (.tmp 87) = .bool (decide (sv < many)) → (∀ e : Nat, e < 59 ∨ 88 ≤ e → a'.eval (.tmp e) = a.eval (.tmp e)) → Q .normal a' w.drew) :
    (Code.region 12 opsP12c true).wpIn F n Try.prog Q a w := by
  have hR : (fun w : World => w.cell? ⟨bd, od + k, none⟩ = some (.int .i64 dn) ∧ w.cell? ⟨bx, 3, none⟩ = some (.int .i64 lo) ∧ w.cell? ⟨bx, 4, none⟩ = some (.int .i64 hi) ∧ w.cell? ⟨bx, 0, none⟩ = some (.int .i64 src) ∧ w.cell? ⟨bx, 2, none⟩ = some (.int .i64 many) ∧ w.cell? ⟨b8, src.toNat, none⟩ = some (.int .i64 sv)) w.drew := ⟨m0, m1, m2, m3, m4, m5⟩
  have hB : Below w.heap.size w w.drew := (Below.refl _ _).drew
  refine region_K (KpR (fun w => w.cell? ⟨bd, od + k, none⟩ = some (.int .i64 dn) ∧ w.cell? ⟨bx, 3, none⟩ = some (.int .i64 lo) ∧ w.cell? ⟨bx, 4, none⟩ = some (.int .i64 hi) ∧ w.cell? ⟨bx, 0, none⟩ = some (.int .i64 src) ∧ w.cell? ⟨bx, 2, none⟩ = some (.int .i64 many) ∧ w.cell? ⟨b8, src.toNat, none⟩ = some (.int .i64 sv)) (fun _ => false)) hF (by kernel_rfl) Try.mixed ?_
  change AnyK _ _ _ _ 29 (Array.replicate 29 false) _ _
  clear hB
  generalize w.drew = W at *
  refine AnyK.move (i := 0) may_o (v := .slice (some ⟨bd, od, none⟩) m cd) (by simp [t2]) hR ?_
  refine AnyK.move (i := 1) may_o (v := .int .i64 k) (by simp [t11]) hR ?_
  refine AnyK.index (i := 2) may_o (u := .slice (some ⟨bd, od, none⟩) m cd) (u' := .int .i64 k) (v := .pointer (some ⟨bd, od + k, none⟩)) (by simp [hsz]) (by simp [hsz]) (fun w => ix25o hn w) hR ?_
  refine AnyK.load (i := 3) may_o (p := ⟨bd, od + k, none⟩) (v := .int .i64 dn) (by simp [hsz]) (fun w hw => ld3 hw.1) hR ?_
  refine AnyK.field (i := 4) may_o (u := .pointer (some ⟨bx, 0, none⟩)) (v := .pointer (some ⟨bx, 3, none⟩)) (by simp [t12]) (fun w => fa61_3 w) hR ?_
  refine AnyK.field (i := 5) may_o (u := .pointer (some ⟨bx, 3, none⟩)) (v := .pointer (some ⟨bx, 3, none⟩)) (by simp [hsz]) (fun w => fa46_0 w) hR ?_
  refine AnyK.load (i := 6) may_o (p := ⟨bx, 3, none⟩) (v := .int .i64 lo) (by simp [hsz]) (fun w hw => ld3 hw.2.1) hR ?_
  refine AnyK.field (i := 7) may_o (u := .pointer (some ⟨bx, 0, none⟩)) (v := .pointer (some ⟨bx, 3, none⟩)) (by simp [t12]) (fun w => fa61_3 w) hR ?_
  refine AnyK.field (i := 8) may_o (u := .pointer (some ⟨bx, 3, none⟩)) (v := .pointer (some ⟨bx, 4, none⟩)) (by simp [hsz]) (fun w => fa46_1 w) hR ?_
  refine AnyK.load (i := 9) may_o (p := ⟨bx, 4, none⟩) (v := .int .i64 hi) (by simp [hsz]) (fun w hw => ld3 hw.2.2.1) hR ?_
  refine AnyK.pick1 (i := 10) (by kernel_rfl) ?_
  refine StepK.call (i := 10) (f := 47) (vs := #[.int .i64 dn, .int .i64 lo, .int .i64 hi]) rfl (enters_of Try.func47 (by kernel_rfl) rfl) (by simp) (by simp [hsz]) ((within_at hin).mono ?_)
  rintro _ _ ⟨rfl, rfl⟩
  refine ⟨_, rfl, fun _ h => h, ?_⟩
  refine AnyK.un (i := 11) may_o (u := .bool true) (v := .bool false) (by simp [hsz]) (fun w => by simp [Op.unary]) hR ?_
  refine AnyK.move (i := 12) may_o (v := .bool false) (by simp [hsz]) hR ?_
  refine AnyK.move (i := 13) may_o (v := .slice (some ⟨bd, od, none⟩) m cd) (by simp [t2]) hR (hw := (by exact wanted_g (e := 71) (b' := false) rfl (by simp [hsz]) rfl)) ?_
  refine AnyK.move (i := 14) may_o (v := .int .i64 k) (by simp [t11]) hR (hw := (by exact wanted_g (e := 71) (b' := false) rfl (by simp [hsz]) rfl)) ?_
  refine AnyK.index (i := 15) may_o (u := .slice (some ⟨bd, od, none⟩) m cd) (u' := .int .i64 k) (v := .pointer (some ⟨bd, od + k, none⟩)) (by simp [hsz]) (by simp [hsz]) (fun w => ix25o hn w) hR (hw := (by exact wanted_g (e := 71) (b' := false) rfl (by simp [hsz]) rfl)) ?_
  refine AnyK.load (i := 16) may_o (p := ⟨bd, od + k, none⟩) (v := .int .i64 dn) (by simp [hsz]) (fun w hw => ld3 hw.1) hR (hw := (by exact wanted_g (e := 71) (b' := false) rfl (by simp [hsz]) rfl)) ?_
  refine AnyK.move (i := 17) may_o (v := .int .i64 last) (by simp [t9]) hR (hw := (by exact wanted_g (e := 71) (b' := false) rfl (by simp [hsz]) rfl)) ?_
  refine AnyK.bin (i := 18) may_o (u := .int .i64 dn) (u' := .int .i64 last) (v := .bool false) (by simp [hsz]) (by simp [hsz]) (fun w => lssF hlt w) hR (hw := (by exact wanted_g (e := 71) (b' := false) rfl (by simp [hsz]) rfl)) ?_
  refine AnyK.pick (i := 19) may_o (b := false) (v := .bool false) (by simp [hsz]) (by simp [hsz]) hR ?_
  refine AnyK.move (i := 20) may_o (v := .bool false) (by simp [hsz]) hR ?_
  refine AnyK.field (i := 21) may_o (u := .pointer (some ⟨bx, 0, none⟩)) (v := .pointer (some ⟨bx, 0, none⟩)) (by simp [t12]) (fun w => fa61_0 w) hR (hw := (by exact wanted_g (e := 79) (b' := false) rfl (by simp [hsz]) rfl)) ?_
  refine AnyK.load (i := 22) may_o (p := ⟨bx, 0, none⟩) (v := .int .i64 src) (by simp [hsz]) (fun w hw => ld3 hw.2.2.2.1) hR (hw := (by exact wanted_g (e := 79) (b' := false) rfl (by simp [hsz]) rfl)) ?_
  refine AnyK.index (i := 23) may_o (u := .pointer (some ⟨b8, 0, none⟩)) (u' := .int .i64 src) (v := .pointer (some ⟨b8, src.toNat, none⟩)) (by simp [t8]) (by simp [hsz]) (fun w => ix84a hs0 hs6 w) hR (hw := (by exact wanted_g (e := 79) (b' := false) rfl (by simp [hsz]) rfl)) ?_
  refine AnyK.load (i := 24) may_o (p := ⟨b8, src.toNat, none⟩) (v := .int .i64 sv) (by simp [hsz]) (fun w hw => ld3 hw.2.2.2.2.2) hR (hw := (by exact wanted_g (e := 79) (b' := false) rfl (by simp [hsz]) rfl)) ?_
  refine AnyK.field (i := 25) may_o (u := .pointer (some ⟨bx, 0, none⟩)) (v := .pointer (some ⟨bx, 2, none⟩)) (by simp [t12]) (fun w => fa61_2 w) hR (hw := (by exact wanted_g (e := 79) (b' := false) rfl (by simp [hsz]) rfl)) ?_
  refine AnyK.load (i := 26) may_o (p := ⟨bx, 2, none⟩) (v := .int .i64 many) (by simp [hsz]) (fun w hw => ld3 hw.2.2.2.2.1) hR (hw := (by exact wanted_g (e := 79) (b' := false) rfl (by simp [hsz]) rfl)) ?_
  refine AnyK.bin (i := 27) may_o (u := .int .i64 sv) (u' := .int .i64 many) (v := .bool (decide (sv < many))) (by simp [hsz]) (by simp [hsz]) (fun w => lss3 w) hR (hw := (by exact wanted_g (e := 79) (b' := false) rfl (by simp [hsz]) rfl)) ?_
  refine AnyK.pick (i := 28) may_o (b := false) (v := .bool (decide (sv < many))) (by simp [hsz]) (by simp [hsz]) hR ?_
  refine AnyK.done (by kernel_rfl) (hK _ ?_ ?_ ?_ ?_)
  · simp only [size_put, hsz]
  · simp only [defers_put]
  · exact (by simp [hsz])
  · intro e he
    iterate 29 refine (ev_ne (by omega)).trans ?_
    rfl
end Go.Proofs.Ytfcnombmphophaa

namespace Go.Proofs.Ytfcnombmphophaa
open Go.RowKit Go.Shelf

def updB (sn : Nat → Bool) (i : Nat) : Nat → Bool := fun j => if j = i then true else sn j
def boolC (sn : Nat → Bool) : Array Value := #[.bool (sn 0), .bool (sn 1), .bool (sn 2), .bool (sn 3), .bool (sn 4), .bool (sn 5), .bool (sn 6), .bool (sn 7)]
theorem cases8 {i : Nat} (h : i < 8) : i = 0 ∨ i = 1 ∨ i = 2 ∨ i = 3 ∨ i = 4 ∨ i = 5 ∨ i = 6 ∨ i = 7 := by omega
theorem boolC_get (sn : Nat → Bool) {i : Nat} (h : i < 8) : (boolC sn)[i]? = some (.bool (sn i)) := by
  rcases cases8 h with rfl | rfl | rfl | rfl | rfl | rfl | rfl | rfl <;> rfl
theorem boolC_set (sn : Nat → Bool) {i : Nat} (h : i < 8) : (boolC sn).setIfInBounds i (.bool true) = boolC (updB sn i) := by
  rcases cases8 h with rfl | rfl | rfl | rfl | rfl | rfl | rfl | rfl <;> simp [boolC, updB]

/-- ProveTruth, from some place of the order on: what has been seen, what all have, the last day. -/
def proveGo (l : List Sale) (dys : List Int) : List Int → (Nat → Bool) → (Nat → Int) → Int → Bool
  | [], _, _, _ => true
  | n :: ns, sn, st, last =>
    if inR n 0 ((l.length : Int) - 1) = false then false
    else if sn n.toNat = true then false
    else if inR ((dys[n.toNat]?).getD 0) (saleOf l n.toNat).lo (saleOf l n.toNat).hi = false then false
    else if (dys[n.toNat]?).getD 0 < last then false
    else if st (saleOf l n.toNat).src.toNat < (saleOf l n.toNat).many then false
    else proveGo l dys ns (updB sn n.toNat) (sold st (saleOf l n.toNat)) ((dys[n.toNat]?).getD 0)
def proveB (o t : Int) (l : List Sale) (ord dys : List Int) : Bool :=
  decide (fault o t l = 0) && (decide (ord.length = l.length) && (decide (dys.length = l.length) && proveGo l dys ord (fun _ => false) (upd (fun _ => 0) 0 t) 0))

noncomputable def opsP14 : Array Oper := (Try.f19.body.bind (regionOf 14)).getD #[]
section
attribute [local irreducible] AnyK StepK
set_option maxHeartbeats 1000000 in
theorem regionP14 {F : Fence} {n : Nat} (hF : WideF F Try.prog) {Q : Exit → Act → World → Prop} {a : Act} {w : World} {bd m cd od k bx b8 : Nat} {dn : Int} {st : Nat → Int} {s : Sale} (hsz : a.tmps.size = 96)
    (t2 : a.eval (.tmp 2) = .slice (some ⟨bd, od, none⟩) m cd) (t11 : a.eval (.tmp 11) = .int .i64 k) (t12 : a.eval (.tmp 12) = .pointer (some ⟨bx, 0, none⟩)) (t8 : a.eval (.tmp 8) = .pointer (some ⟨b8, 0, none⟩))
    (m0 : w.cell? ⟨bd, od + k, none⟩ = some (.int .i64 dn)) (hx : Whole w bx 61 (saleC s)) (h8 : Whole w b8 84 (stk st)) (hne : bd ≠ b8) (hn : k < m)
    (ha0 : 0 ≤ s.src) (ha : s.src < 6) (hb0 : 0 ≤ s.dst) (hb : s.dst < 6) (hm0 : 0 ≤ s.many) (hm : s.many ≤ 1000) (hs : ∀ i, -100000 ≤ st i ∧ st i ≤ 100000)
    (hK : ∀ a' W1, Below w.heap.size w W1 → a'.tmps.size = 96 → a'.defers = a.defers → a'.eval (.tmp 9) = .int .i64 dn → (∀ e : Nat, e ≠ 9 ∧ (e < 88 ∨ 95 ≤ e) → a'.eval (.tmp e) = a.eval (.tmp e)) → Q .normal a' (put6 W1 b8 (sold st s))) :
    (Code.region 14 opsP14 true).wpIn F n Try.prog Q a w := by
  have h1 : (fun w : World => w.cell? ⟨bd, od + k, none⟩ = some (.int .i64 dn)) w.drew := m0
  have h2 : (fun w : World => Whole w b8 84 (stk st) ∧ Whole w bx 61 (saleC s)) w.drew := ⟨h8, hx⟩
  have hB : Below w.heap.size w w.drew := (Below.refl _ _).drew
  refine region_K (fun j w w' => ((fun w : World => w.cell? ⟨bd, od + k, none⟩ = some (.int .i64 dn)) w → (fun w : World => w.cell? ⟨bd, od + k, none⟩ = some (.int .i64 dn)) w') ∧ ((j == 7) = false → (fun w : World => Whole w b8 84 (stk st) ∧ Whole w bx 61 (saleC s)) w → (fun w : World => Whole w b8 84 (stk st) ∧ Whole w bx 61 (saleC s)) w')) hF (by kernel_rfl) Try.mixed ?_
  change AnyK _ _ _ _ 9 (Array.replicate 9 false) _ _
  generalize w.drew = W at *
  refine AnyK.move (i := 3) (v := .slice (some ⟨bd, od, none⟩) m cd) ⟨rfl, by kernel_rfl, by kernel_rfl, by kernel_rfl, fun _ _ _ _ hk hR => hk.1 hR, fun _ => ⟨id, fun _ => id⟩⟩ (T := fun _ => false) (by simp [t2]) h1 ?_
  refine AnyK.move (i := 4) (v := .int .i64 k) ⟨rfl, by kernel_rfl, by kernel_rfl, by kernel_rfl, fun _ _ _ _ hk hR => hk.1 hR, fun _ => ⟨id, fun _ => id⟩⟩ (T := fun _ => false) (by simp [t11]) h1 ?_
  refine AnyK.index (i := 5) (u := .slice (some ⟨bd, od, none⟩) m cd) (u' := .int .i64 k) (v := .pointer (some ⟨bd, od + k, none⟩)) ⟨rfl, by kernel_rfl, by kernel_rfl, by kernel_rfl, fun _ _ _ _ hk hR => hk.1 hR, fun _ => ⟨id, fun _ => id⟩⟩ (T := fun _ => false) (by simp [hsz]) (by simp [hsz]) (fun w => ix25o hn w) h1 ?_
  refine AnyK.load (i := 6) (p := ⟨bd, od + k, none⟩) (v := .int .i64 dn) ⟨rfl, by kernel_rfl, by kernel_rfl, by kernel_rfl, fun _ _ _ _ hk hR => hk.1 hR, fun _ => ⟨id, fun _ => id⟩⟩ (T := fun _ => false) (by simp [hsz]) (fun w hw => ld3 hw) h1 ?_
  refine AnyK.load (i := 0) (p := ⟨b8, 0, none⟩) (v := .agg (stk st)) ⟨rfl, by kernel_rfl, by kernel_rfl, by kernel_rfl, fun _ _ _ hT hk hR => hk.2 hT hR, fun _ => ⟨id, fun _ => id⟩⟩ (T := fun j => j == 7) (by simp [t8]) (fun w hw => ld84 hw.1) h2 ?_
  refine AnyK.load (i := 1) (p := ⟨bx, 0, none⟩) (v := saleV s) ⟨rfl, by kernel_rfl, by kernel_rfl, by kernel_rfl, fun _ _ _ hT hk hR => hk.2 hT hR, fun _ => ⟨id, fun _ => id⟩⟩ (T := fun j => j == 7) (by simp [t12]) (fun w hw => ld61 (hw.2.cell 0) (hw.2.cell 1) (hw.2.cell 2) (hw.2.cell 3) (hw.2.cell 4)) h2 ?_
  refine AnyK.pick1 (i := 2) (by kernel_rfl) ?_
  refine StepK.call (i := 2) (f := 50) (vs := #[.agg (stk st), saleV s]) rfl (enters_of Try.func50 (by kernel_rfl) rfl) rfl (by simp [hsz]) ((sold_any st s W ha0 ha hb0 hb hm0 hm hs).mono ?_)
  rintro _ W2 ⟨rfl, hb2⟩
  have h1' := (hb2.cell (block_lt_of_cell h1)).trans h1
  have h2' : Whole W2 b8 84 (stk st) := h2.1.below hb2 h2.1.lt
  refine ⟨_, rfl, ⟨fun hw => (hb2.cell (block_lt_of_cell hw)).trans hw, fun _ hw => ⟨hw.1.below hb2 hw.1.lt, hw.2.below hb2 hw.2.lt⟩⟩, ?_⟩
  refine AnyK.pick1 (i := 7) (by kernel_rfl) ?_
  refine StepK.store (i := 7) (u := .pointer (some ⟨b8, 0, none⟩)) (u' := .agg (stk (sold st s))) rfl (by simp [t8]) (by simp [hsz]) (st84 h2') ⟨fun hw => ?_, fun h => by cases h⟩ ?_
  · show World.cell? _ _ = _
    iterate 6 rw [cell_set_far (by simpa using hne)]
    exact hw
  refine AnyK.assign (i := 8) (v := .int .i64 dn) (R := fun _ => True) ⟨rfl, by kernel_rfl, by kernel_rfl, by kernel_rfl, fun _ _ _ _ _ _ => trivial, fun _ => ⟨id, fun _ => id⟩⟩ (T := fun _ => false) (by simp [hsz]) trivial ?_
  refine AnyK.done (by kernel_rfl) (hK _ _ (hB.trans (hb2.mono hB.size)) ?_ ?_ ?_ ?_)
  · simp only [size_put, hsz]
  · simp only [defers_put]
  · exact (by simp [hsz])
  · intro e he
    iterate 8 refine (ev_ne (by omega)).trans ?_
    rfl
end

theorem al82 (w : World) : (Instr.alloc 82 true (.tuple #[])).run Try.prog w = .ok (.pointer (some ⟨w.heap.size, 0, none⟩)) (w.alloc (.cells (boolC fun _ => false) 82)) := by
  unfold boolC
  go_simp
theorem al84 (w : World) : (Instr.alloc 84 true (.tuple #[])).run Try.prog w = .ok (.pointer (some ⟨w.heap.size, 0, none⟩)) (w.alloc (.cells (stk fun _ => 0) 84)) := by
  unfold stk
  go_simp

noncomputable def opsP0 : Array Oper := (Try.f19.body.bind (regionOf 0)).getD #[]
noncomputable def opsP1 : Array Oper := (Try.f19.body.bind (regionOf 1)).getD #[]
noncomputable def opsP2 : Array Oper := (Try.f19.body.bind (regionOf 2)).getD #[]
noncomputable def opsP3 : Array Oper := (Try.f19.body.bind (regionOf 3)).getD #[]
noncomputable def opsP4 : Array Oper := (Try.f19.body.bind (regionOf 4)).getD #[]
noncomputable def opsP5 : Array Oper := (Try.f19.body.bind (regionOf 5)).getD #[]
noncomputable def opsP6 : Array Oper := (Try.f19.body.bind (regionOf 6)).getD #[]
noncomputable def opsP7 : Array Oper := (Try.f19.body.bind (regionOf 7)).getD #[]
noncomputable def opsP8 : Array Oper := (Try.f19.body.bind (regionOf 8)).getD #[]
noncomputable def opsP9 : Array Oper := (Try.f19.body.bind (regionOf 9)).getD #[]
noncomputable def opsP10 : Array Oper := (Try.f19.body.bind (regionOf 10)).getD #[]
noncomputable def opsP11 : Array Oper := (Try.f19.body.bind (regionOf 11)).getD #[]
noncomputable def opsP13 : Array Oper := (Try.f19.body.bind (regionOf 13)).getD #[]
noncomputable def opsP15 : Array Oper := (Try.f19.body.bind (regionOf 15)).getD #[]
noncomputable def opsP16 : Array Oper := (Try.f19.body.bind (regionOf 16)).getD #[]
noncomputable def bodyP : Code := .block 1 (.seq (.region 7 opsP7 false) (.seq (.seq (.region 8 opsP8 false) (.cond (.tmp 51) (.seq (.region 9 opsP9 false) .ret) .skip)) (.seq (.region 10 opsP10 false) (.seq (.region 11 opsP11 false) (.seq (.seq (.region 12 opsP12a true) (.cond (.tmp 87) (.seq (.region 13 opsP13 false) .ret) .skip)) (.region 14 opsP14 true))))))
noncomputable def roundP : Code := .seq (.region 6 opsP6 false) (.seq (.cond (.tmp 37) .skip (.exit 0)) (.seq bodyP (.region 15 opsP15 false)))
noncomputable def code19 : Code := .seq (.region 0 opsP0 false) (.seq (.seq (.region 1 opsP1 false) (.cond (.tmp 31) (.seq (.region 2 opsP2 false) .ret) .skip)) (.seq (.region 3 opsP3 false) (.seq (.region 4 opsP4 false) (.seq (.seq (.region 5 opsP5 false) (.block 0 (.loop roundP))) (.seq (.region 16 opsP16 false) .ret)))))
theorem body19 : Try.f19.body = some code19 := by kernel_rfl

/-- The frame of ProveTruth in its loop. -/
structure FrP (a : Act) (b3 b7 b8 k n : Nat) (last : Int) (vo vd : Value) : Prop where
  sz : a.tmps.size = 96
  df : a.defers = []
  t2 : a.eval (.tmp 2) = vd
  t3 : a.eval (.tmp 3) = .pointer (some ⟨b3, 0, none⟩)
  t7 : a.eval (.tmp 7) = .pointer (some ⟨b7, 0, none⟩)
  t8 : a.eval (.tmp 8) = .pointer (some ⟨b8, 0, none⟩)
  t9 : a.eval (.tmp 9) = .int .i64 last
  t34 : a.eval (.tmp 34) = vo
  t35 : a.eval (.tmp 35) = .int .i64 n
  t36 : a.eval (.tmp 36) = .int .i64 k

/-- The memory of ProveTruth in its loop. -/
structure MrP (w0 W : World) (b3 b7 b8 : Nat) (o t : Int) (A : Option Addr) (m c : Nat) (sn : Nat → Bool) (st : Nat → Int) : Prop where
  w3 : Whole W b3 31 #[.int .i64 o, .int .i64 t, .slice A m c]
  w7 : Whole W b7 82 (boolC sn)
  w8 : Whole W b8 84 (stk st)
  low : Below w0.heap.size w0 W
  g3 : w0.heap.size ≤ b3
  g7 : w0.heap.size ≤ b7
  g8 : w0.heap.size ≤ b8
  ne : b3 ≠ b7 ∧ b3 ≠ b8 ∧ b7 ≠ b8
section
variable {w0 W W' : World} {b3 b7 b8 : Nat} {o t : Int} {A : Option Addr} {m c : Nat} {sn : Nat → Bool} {st : Nat → Int}
theorem MrP.below (h : MrP w0 W b3 b7 b8 o t A m c sn st) (hb : Below W.heap.size W W') : MrP w0 W' b3 b7 b8 o t A m c sn st :=
  ⟨h.w3.below hb h.w3.lt, h.w7.below hb h.w7.lt, h.w8.below hb h.w8.lt, h.low.trans (hb.mono h.low.size), h.g3, h.g7, h.g8, h.ne⟩
theorem MrP.seen (h : MrP w0 W b3 b7 b8 o t A m c sn st) {i : Nat} (hi : i < 8) : MrP w0 (W.setCell ⟨b7, i, none⟩ (.bool true)) b3 b7 b8 o t A m c (updB sn i) st :=
  ⟨h.w3.far (p := ⟨b7, i, none⟩) (by have := h.ne; simp; omega) _, by rw [← boolC_set sn hi]; exact h.w7.set i _, h.w8.far (p := ⟨b7, i, none⟩) (by have := h.ne; simp; omega) _, h.low.setCell (p := ⟨b7, i, none⟩) (by have := h.g7; simp; omega) _, h.g3, h.g7, h.g8, h.ne⟩
theorem MrP.stock (h : MrP w0 W b3 b7 b8 o t A m c sn st) (st2 : Nat → Int) : MrP w0 (put6 W b8 st2) b3 b7 b8 o t A m c sn st2 :=
  ⟨h.w3.far6 h.ne.2.1 st2, h.w7.far6 h.ne.2.2 st2, h.w8.put6 st2, below_put6 h.low h.g8 st2, h.g3, h.g7, h.g8, h.ne⟩
end

set_option maxRecDepth 10000 in
set_option maxHeartbeats 2000000 in
/-- The loop of ProveTruth. -/
theorem loopP {Q : Exit → Act → World → Prop} {a : Act} {w0 W : World} {b3 b7 b8 c c1 c2 : Nat} {o t : Int} {A A1 A2 : Option Addr} {l : List Sale} {ord dys : List Int} (hv : Valid o t l) (hs : SalesAt w0 w0.heap.size A l) (ho : IntsAt w0 w0.heap.size A1 ord) (hd : IntsAt w0 w0.heap.size A2 dys)
    (hol : ord.length = l.length) (hdl : dys.length = l.length) (fr : FrP a b3 b7 b8 0 ord.length 0 (.slice A1 ord.length c1) (.slice A2 dys.length c2)) (mr : MrP w0 W b3 b7 b8 o t A l.length c (fun _ => false) (upd (fun _ => 0) 0 t))
    (hT : ∀ a' W', a'.tmps.size = 96 → a'.defers = [] → a'.eval (.tmp 6) = .bool false → Below w0.heap.size w0 W' → proveGo l dys ord (fun _ => false) (upd (fun _ => 0) 0 t) 0 = false → Q .ret a' W')
    (hN : ∀ a' W', a'.tmps.size = 96 → a'.defers = [] → Below w0.heap.size w0 W' → proveGo l dys ord (fun _ => false) (upd (fun _ => 0) 0 t) 0 = true → Q .normal a' W') :
    (Code.block 0 (.loop roundP)).wpIn Fence.wide 5 Try.prog Q a W := by
  have hl8 := hv.len
  obtain ⟨g, hg⟩ : ∃ g, g = proveGo l dys ord (fun _ => false) (upd (fun _ => 0) 0 t) 0 := ⟨_, rfl⟩
  rw [← hg] at hT hN
  refine wpIn_block (wpIn_loop (fun a W' => ∃ (k : Nat) (sn : Nat → Bool) (st : Nat → Int) (last : Int), k ≤ ord.length ∧ FrP a b3 b7 b8 k ord.length last (.slice A1 ord.length c1) (.slice A2 dys.length c2) ∧ MrP w0 W' b3 b7 b8 o t A l.length c sn st ∧ (∀ i, -(1000 + 2000 * (k : Int)) ≤ st i ∧ st i ≤ 1000 + 2000 * (k : Int)) ∧ g = proveGo l dys (ord.drop k) sn st last) (fun a _ => ord.length - (intOf (a.eval (.tmp 36))).toNat)
    ⟨0, _, _, 0, Nat.zero_le _, fr, mr, ?_, by rw [hg]; rfl⟩ ?_)
  · intro i
    have h1 := hv.t0
    have h2 := hv.t1
    simp only [upd]
    split <;> omega
  clear fr mr hg a W
  rintro a W ⟨k, sn, st, last, hk, fr, mr, hst, hg⟩
  have hsz := fr.sz
  refine wpIn_seq (region_p 1 ?_)
  intro K hK
  refine ListK.bin (i := 0) (u := .int .i64 (k : Int)) (u' := .int .i64 (ord.length : Int)) (v := .bool (decide ((k : Int) < (ord.length : Int)))) rfl (by simp [fr.t36]) (by simp [fr.t35]) (lss3 _) ?_
  refine ListK.done (hK _ _ ?_)
  clear hK K
  by_cases hlt : k < ord.length
  · refine wpIn_seq (wpIn_cond (t := true) (by simp [hsz]; omega) (wpIn_skip ?_))
    obtain ⟨x, hx⟩ : ∃ x, ord[k] = x := ⟨_, rfl⟩
    have hxk : ord[k]? = some x := by rw [List.getElem?_eq_getElem hlt, hx]
    have hdrop : ord.drop k = x :: ord.drop (k + 1) := by rw [List.drop_eq_getElem_cons hlt, hx]
    rw [hdrop, proveGo] at hg
    obtain ⟨b1, o1, hA1, hb1, hc1⟩ := ho k x hxk
    have hc1' := (mr.low.cell (p := ⟨b1, o1 + k, none⟩) hb1).trans hc1
    -- the end of a round that says no
    have hno : ∀ (a' : Act) (W' : World) (Q' : Exit → Act → World → Prop), a'.tmps.size = 96 → a'.defers = [] → Below w0.heap.size w0 W' → (∀ a' W', a'.tmps.size = 96 → a'.defers = [] → a'.eval (.tmp 6) = .bool false → Below w0.heap.size w0 W' → Q' .ret a' W') → (Code.seq (.region 9 opsP9 false) .ret).wpIn Fence.wide 5 Try.prog Q' a' W' := by
      intro a' W' Q' hz hdf hb hQ'
      refine wpIn_seq (region_p 1 ?_)
      intro K hK
      refine ListK.assign (i := 0) (v := .bool false) rfl (by simp) ?_
      refine ListK.done (hK _ _ (wpIn_ret ?_))
      exact hQ' _ _ (by simp only [size_put, hz]) (by simp only [defers_put, hdf]) (by simp [hz]) hb
    have hno' : ∀ (a' : Act) (W' : World) (Q' : Exit → Act → World → Prop), a'.tmps.size = 96 → a'.defers = [] → Below w0.heap.size w0 W' → (∀ a' W', a'.tmps.size = 96 → a'.defers = [] → a'.eval (.tmp 6) = .bool false → Below w0.heap.size w0 W' → Q' .ret a' W') → (Code.seq (.region 13 opsP13 false) .ret).wpIn Fence.wide 5 Try.prog Q' a' W' := by
      intro a' W' Q' hz hdf hb hQ'
      refine wpIn_seq (region_p 1 ?_)
      intro K hK
      refine ListK.assign (i := 0) (v := .bool false) rfl (by simp) ?_
      refine ListK.done (hK _ _ (wpIn_ret ?_))
      exact hQ' _ _ (by simp only [size_put, hz]) (by simp only [defers_put, hdf]) (by simp [hz]) hb
    subst hA1
    refine wpIn_seq (wpIn_block (wpIn_seq (region_p 3 ?_)))
    intro K hK
    refine ListK.index (i := 0) (u := .slice (some ⟨b1, o1, none⟩) ord.length c1) (u' := .int .i64 (k : Int)) (v := .pointer (some ⟨b1, o1 + k, none⟩)) rfl (by simp [fr.t34]) (by simp [fr.t36]) (ix25o hlt _) ?_
    refine ListK.load (i := 1) (p := ⟨b1, o1 + k, none⟩) (v := .int .i64 x) rfl (by simp [hsz]) (ld3 (hc1')) ?_
    refine ListK.assign (i := 2) (v := .int .i64 x) rfl (by simp [hsz]) ?_
    refine ListK.done (hK _ _ ?_)
    clear hK K
    generalize hA : Act.put _ _ _ = a1
    have hz_a1 : a1.tmps.size = 96 := by rw [← hA]; simp only [size_put, hsz]
    have u2 : a1.eval (.tmp 2) = .slice A2 dys.length c2 := by rw [← hA]; exact (by simp [fr.t2])
    have u3 : a1.eval (.tmp 3) = .pointer (some ⟨b3, 0, none⟩) := by rw [← hA]; exact (by simp [fr.t3])
    have u7 : a1.eval (.tmp 7) = .pointer (some ⟨b7, 0, none⟩) := by rw [← hA]; exact (by simp [fr.t7])
    have u8 : a1.eval (.tmp 8) = .pointer (some ⟨b8, 0, none⟩) := by rw [← hA]; exact (by simp [fr.t8])
    have u9 : a1.eval (.tmp 9) = .int .i64 last := by rw [← hA]; exact (by simp [fr.t9])
    have u11 : a1.eval (.tmp 11) = .int .i64 x := by rw [← hA]; exact (by simp [hsz])
    have u34 : a1.eval (.tmp 34) = .slice (some ⟨b1, o1, none⟩) ord.length c1 := by rw [← hA]; exact (by simp [fr.t34])
    have u35 : a1.eval (.tmp 35) = .int .i64 (ord.length : Int) := by rw [← hA]; exact (by simp [fr.t35])
    have u36 : a1.eval (.tmp 36) = .int .i64 (k : Int) := by rw [← hA]; exact (by simp [fr.t36])
    have hd_a1 : a1.defers = [] := by rw [← hA]; simp only [defers_put, fr.df]
    clear hA
    have hin := mr.w3.cell 2
    by_cases hr : inR x 0 ((l.length : Int) - 1) = false
    · skip
      refine wpIn_seq (wpIn_seq (region_p 12 ?_))
      intro K hK
      refine ListK.move (i := 0) (v := .int .i64 x) rfl (by simp [u11]) ?_
      refine ListK.field (i := 1) (u := .pointer (some ⟨b3, 0, none⟩)) (v := .pointer (some ⟨b3, 2, none⟩)) rfl (by simp [u3]) (fa31_2 _) ?_
      refine ListK.load (i := 2) (p := ⟨b3, 2, none⟩) (v := .slice A (l.length) c) rfl (by simp [hz_a1]) (ld29 (hin)) ?_
      refine ListK.len (i := 3) (u := .slice A (l.length) c) (v := .int .i64 (l.length)) rfl (by simp [hz_a1]) (ln29 _ _ _ _ _) rfl ?_
      refine ListK.bin (i := 4) (u := .int .i64 (l.length : Int)) (u' := .int .i64 1) (v := .int .i64 ((l.length : Int) - 1)) rfl (by simp [hz_a1]) (by simp) (sub3 (by omega) (by omega) _) ?_
      refine ListK.call (i := 5) (vs := #[.int .i64 x, .int .i64 0, .int .i64 ((l.length : Int) - 1)]) rfl (enters_of Try.func47 (by kernel_rfl) rfl) (by simp [hz_a1]) ((within_at hr).mono ?_)
      rintro _ _ ⟨rfl, rfl⟩
      refine ⟨_, rfl, ?_⟩
      refine ListK.un (i := 6) (u := .bool false) (v := .bool true) rfl (by simp [hz_a1]) (not4 _ _) ?_
      refine ListK.move (i := 7) (v := .bool true) rfl (by simp [hz_a1]) ?_
      refine ListK.passG (i := 8) (e := 47) (b' := true) rfl rfl (by simp [hz_a1]) rfl ?_
      refine ListK.passG (i := 9) (e := 47) (b' := true) rfl rfl (by simp [hz_a1]) rfl ?_
      refine ListK.passG (i := 10) (e := 47) (b' := true) rfl rfl (by simp [hz_a1]) rfl ?_
      refine ListK.pick (i := 11) (b := true) (v := .bool true) rfl (by simp [hz_a1]) (by simp) ?_
      refine ListK.done (hK _ _ ?_)
      clear hK K
      refine wpIn_cond (t := true) (by simp [hz_a1]) ?_
      exact hno _ _ _ (by simp only [size_put, hz_a1]) (by simp only [defers_put, hd_a1]) mr.low (fun a' W' h1 h2 h3 h4 => hT a' W' h1 h2 h3 h4 (by rw [hg, if_pos hr]))
    · have hr' : inR x 0 ((l.length : Int) - 1) = true := by simpa using hr
      have hxr := inR_iff.1 hr'
      rw [if_neg hr] at hg
      obtain ⟨n, rfl⟩ : ∃ n : Nat, x = n := ⟨x.toNat, by omega⟩
      have hn8 : n < 8 := by omega
      have hnl : n < l.length := by omega
      simp only [Int.toNat_natCast] at hg
      have h7 : W.cell? ⟨b7, n, none⟩ = some (.bool (sn n)) := (mr.w7.cell n).trans (boolC_get sn hn8)
      refine wpIn_seq (wpIn_seq (region_p 12 ?_))
      intro K hK
      refine ListK.move (i := 0) (v := .int .i64 (n : Int)) rfl (by simp [u11]) ?_
      refine ListK.field (i := 1) (u := .pointer (some ⟨b3, 0, none⟩)) (v := .pointer (some ⟨b3, 2, none⟩)) rfl (by simp [u3]) (fa31_2 _) ?_
      refine ListK.load (i := 2) (p := ⟨b3, 2, none⟩) (v := .slice A (l.length) c) rfl (by simp [hz_a1]) (ld29 (hin)) ?_
      refine ListK.len (i := 3) (u := .slice A (l.length) c) (v := .int .i64 (l.length)) rfl (by simp [hz_a1]) (ln29 _ _ _ _ _) rfl ?_
      refine ListK.bin (i := 4) (u := .int .i64 (l.length : Int)) (u' := .int .i64 1) (v := .int .i64 ((l.length : Int) - 1)) rfl (by simp [hz_a1]) (by simp) (sub3 (by omega) (by omega) _) ?_
      refine ListK.call (i := 5) (vs := #[.int .i64 (n : Int), .int .i64 0, .int .i64 ((l.length : Int) - 1)]) rfl (enters_of Try.func47 (by kernel_rfl) rfl) (by simp [hz_a1]) ((within_at hr').mono ?_)
      rintro _ _ ⟨rfl, rfl⟩
      refine ⟨_, rfl, ?_⟩
      refine ListK.un (i := 6) (u := .bool true) (v := .bool false) rfl (by simp [hz_a1]) (not4 _ _) ?_
      refine ListK.move (i := 7) (v := .bool false) rfl (by simp [hz_a1]) ?_
      refine ListK.move (i := 8) (v := .int .i64 (n : Int)) rfl (by simp [u11]) ?_ (hw := wanted_g (e := 47) (b' := false) rfl (by simp [hz_a1]) rfl)
      refine ListK.index (i := 9) (u := .pointer (some ⟨b7, 0, none⟩)) (u' := .int .i64 (n : Int)) (v := .pointer (some ⟨b7, n, none⟩)) rfl (by simp [u7]) (by simp [hz_a1]) (ix82a hn8 _) ?_ (hw := wanted_g (e := 47) (b' := false) rfl (by simp [hz_a1]) rfl)
      refine ListK.load (i := 10) (p := ⟨b7, n, none⟩) (v := .bool (sn n)) rfl (by simp [hz_a1]) (ld4 (h7)) ?_ (hw := wanted_g (e := 47) (b' := false) rfl (by simp [hz_a1]) rfl)
      refine ListK.pick (i := 11) (b := false) (v := .bool (sn n)) rfl (by simp [hz_a1]) (by simp [hz_a1]) ?_
      refine ListK.done (hK _ _ ?_)
      clear hK K
      by_cases hsn : sn n = true
      · refine wpIn_cond (t := true) (by simp [hz_a1, hsn]) ?_
        exact hno _ _ _ (by simp only [size_put, hz_a1]) (by simp only [defers_put, hd_a1]) mr.low (fun a' W' h1 h2 h3 h4 => hT a' W' h1 h2 h3 h4 (by rw [hg, if_pos hsn]))
      · have hsn' : sn n = false := by simpa using hsn
        rw [if_neg hsn] at hg
        refine wpIn_cond (t := false) (by simp [hz_a1, hsn']) (wpIn_skip ?_)
        generalize hA : Act.put _ _ _ = a2
        have hz_a2 : a2.tmps.size = 96 := by rw [← hA]; simp only [size_put, hz_a1]
        have v2 : a2.eval (.tmp 2) = .slice A2 dys.length c2 := by rw [← hA]; exact (by simp [u2])
        have v3 : a2.eval (.tmp 3) = .pointer (some ⟨b3, 0, none⟩) := by rw [← hA]; exact (by simp [u3])
        have v7 : a2.eval (.tmp 7) = .pointer (some ⟨b7, 0, none⟩) := by rw [← hA]; exact (by simp [u7])
        have v8 : a2.eval (.tmp 8) = .pointer (some ⟨b8, 0, none⟩) := by rw [← hA]; exact (by simp [u8])
        have v9 : a2.eval (.tmp 9) = .int .i64 last := by rw [← hA]; exact (by simp [u9])
        have v11 : a2.eval (.tmp 11) = .int .i64 (n : Int) := by rw [← hA]; exact (by simp [u11])
        have v34 : a2.eval (.tmp 34) = .slice (some ⟨b1, o1, none⟩) ord.length c1 := by rw [← hA]; exact (by simp [u34])
        have v35 : a2.eval (.tmp 35) = .int .i64 (ord.length : Int) := by rw [← hA]; exact (by simp [u35])
        have v36 : a2.eval (.tmp 36) = .int .i64 (k : Int) := by rw [← hA]; exact (by simp [u36])
        have hd_a2 : a2.defers = [] := by rw [← hA]; simp only [defers_put, hd_a1]
        clear hA
        refine wpIn_seq (region_p 3 ?_)
        intro K hK
        refine ListK.move (i := 0) (v := .int .i64 (n : Int)) rfl (by simp [v11]) ?_
        refine ListK.index (i := 1) (u := .pointer (some ⟨b7, 0, none⟩)) (u' := .int .i64 (n : Int)) (v := .pointer (some ⟨b7, n, none⟩)) rfl (by simp [v7]) (by simp [hz_a2]) (ix82a hn8 _) ?_
        refine ListK.store (i := 2) (u := .pointer (some ⟨b7, n, none⟩)) (u' := .bool true) rfl (by simp [hz_a2]) (by simp) (st4 h7 (mr.w7.frozen n)) ?_
        refine ListK.done (hK _ _ ?_)
        clear hK K
        have mr2 := mr.seen (i := n) hn8
        generalize W.setCell ⟨b7, n, none⟩ (.bool true) = W2 at *
        clear mr h7 hin hc1' W
        obtain ⟨s, hsl⟩ : ∃ s, l[n] = s := ⟨_, rfl⟩
        have hs_ : l[n]? = some s := by rw [List.getElem?_eq_getElem hnl, hsl]
        have hso : saleOf l n = s := saleOf_eq hs_
        obtain ⟨b, off, hA, hbB, hsa⟩ := hs n s hs_
        subst hA
        have hsa2 := hsa.keep (w' := W2) (fun o => mr2.low.cell (p := ⟨b, o, none⟩) hbB)
        obtain ⟨s0, s1, s2, s3, s4⟩ := hsa2
        have hsv := hv.at_ hs_
        have ho6 := hv.o6
        have h3c := mr2.w3.cell 2
        refine wpIn_seq (region_p 7 ?_)
        intro K hK
        refine ListK.field (i := 0) (u := .pointer (some ⟨b3, 0, none⟩)) (v := .pointer (some ⟨b3, 2, none⟩)) rfl (by simp [v3]) (fa31_2 _) ?_
        refine ListK.load (i := 1) (p := ⟨b3, 2, none⟩) (v := .slice (some ⟨b, off, none⟩) l.length c) rfl (by simp [hz_a2]) (ld29 (h3c)) ?_
        refine ListK.move (i := 2) (v := .int .i64 (n : Int)) rfl (by simp [v11]) ?_
        refine ListK.index (i := 3) (u := .slice (some ⟨b, off, none⟩) l.length c) (u' := .int .i64 (n : Int)) (v := .pointer (some ⟨b, off + n * 5, none⟩)) rfl (by simp [hz_a2]) (by simp [hz_a2]) (ix29 hnl _) ?_
        refine ListK.load (i := 4) (p := ⟨b, off + n * 5, none⟩) (v := saleV s) rfl (by simp [hz_a2]) (ld61 s0 s1 s2 s3 s4) ?_
        refine ListK.alloc (i := 5) rfl (al61 W2) ?_
        refine ListK.store (i := 6) (u := .pointer (some ⟨W2.heap.size, 0, none⟩)) (u' := saleV s) rfl (by simp [hz_a2]) (by simp [hz_a2]) (sa61 W2 _ _ _ _ _) ?_
        refine ListK.done (hK _ _ ?_)
        clear hK K
        have hxw := Whole.new W2 61 (saleC s)
        have mr3 := mr2.below ((Below.refl _ W2).alloc (Nat.le_refl _) (.cells (saleC s) 61))
        have hbx8 : b8 ≠ W2.heap.size := by have := mr2.w8.lt; omega
        generalize hbx : W2.heap.size = bx at *
        generalize W2.alloc (.cells (saleC s) 61) = W3 at *
        clear mr2 s0 s1 s2 s3 s4 h3c hbx W2
        generalize hA : Act.put _ _ _ = a3
        have hz_a3 : a3.tmps.size = 96 := by rw [← hA]; simp only [size_put, hz_a2]
        have w2 : a3.eval (.tmp 2) = .slice A2 dys.length c2 := by rw [← hA]; exact (by simp [v2])
        have w3 : a3.eval (.tmp 3) = .pointer (some ⟨b3, 0, none⟩) := by rw [← hA]; exact (by simp [v3])
        have w7 : a3.eval (.tmp 7) = .pointer (some ⟨b7, 0, none⟩) := by rw [← hA]; exact (by simp [v7])
        have w8 : a3.eval (.tmp 8) = .pointer (some ⟨b8, 0, none⟩) := by rw [← hA]; exact (by simp [v8])
        have w9 : a3.eval (.tmp 9) = .int .i64 last := by rw [← hA]; exact (by simp [v9])
        have w11 : a3.eval (.tmp 11) = .int .i64 (n : Int) := by rw [← hA]; exact (by simp [v11])
        have w12 : a3.eval (.tmp 12) = .pointer (some ⟨bx, 0, none⟩) := by rw [← hA]; exact (by simp [hz_a2])
        have w34 : a3.eval (.tmp 34) = .slice (some ⟨b1, o1, none⟩) ord.length c1 := by rw [← hA]; exact (by simp [v34])
        have w35 : a3.eval (.tmp 35) = .int .i64 (ord.length : Int) := by rw [← hA]; exact (by simp [v35])
        have w36 : a3.eval (.tmp 36) = .int .i64 (k : Int) := by rw [← hA]; exact (by simp [v36])
        have hd_a3 : a3.defers = [] := by rw [← hA]; simp only [defers_put, hd_a2]
        clear hA
        have hnd : n < dys.length := by omega
        obtain ⟨dn, hdn⟩ : ∃ dn, dys[n] = dn := ⟨_, rfl⟩
        have hdn_ : dys[n]? = some dn := by rw [List.getElem?_eq_getElem hnd, hdn]
        obtain ⟨bd, od, hA2, hbd, hcd⟩ := hd n dn hdn_
        subst hA2
        have hcd3 := (mr3.low.cell (p := ⟨bd, od + n, none⟩) hbd).trans hcd
        rw [hso, hdn_, Option.getD_some] at hg
        have hst8 : W3.cell? ⟨b8, s.src.toNat, none⟩ = some (.int .i64 (st s.src.toNat)) := (mr3.w8.cell _).trans (stk_get st _ (by omega))
        have hbd8 : bd ≠ b8 := by have := mr3.g8; omega
        by_cases hdr : inR dn s.lo s.hi = false
        · refine wpIn_seq (wpIn_seq (regionP12a (wideF_plain _) hz_a3 w2 w11 w12 w8 w9 hcd3 (hxw.cell 3) (hxw.cell 4) (hxw.cell 0) (hxw.cell 2) hst8 hnd (by omega) (by omega) hdr ?_))
          intro a4 hz4 hd4 y87 he4
          refine wpIn_cond (t := true) y87 ?_
          exact hno' _ _ _ hz4 (hd4.trans hd_a3) mr3.low.drew (fun a' W' h1 h2 h3 h4 => hT a' W' h1 h2 h3 h4 (by rw [hg, if_pos hdr]))
        · have hdr' : inR dn s.lo s.hi = true := by simpa using hdr
          rw [if_neg hdr] at hg
          by_cases hla : dn < last
          · rw [if_pos hla] at hg
            refine wpIn_seq (wpIn_seq (regionP12b (wideF_plain _) hz_a3 w2 w11 w12 w8 w9 hcd3 (hxw.cell 3) (hxw.cell 4) (hxw.cell 0) (hxw.cell 2) hst8 hnd (by omega) (by omega) hdr' hla ?_))
            intro a4 hz4 hd4 y87 he4
            refine wpIn_cond (t := true) y87 ?_
            exact hno' _ _ _ hz4 (hd4.trans hd_a3) mr3.low.drew (fun a' W' h1 h2 h3 h4 => hT a' W' h1 h2 h3 h4 hg)
          · rw [if_neg hla] at hg
            refine wpIn_seq (wpIn_seq (regionP12c (wideF_plain _) hz_a3 w2 w11 w12 w8 w9 hcd3 (hxw.cell 3) (hxw.cell 4) (hxw.cell 0) (hxw.cell 2) hst8 hnd (by omega) (by omega) hdr' hla ?_))
            intro a4 hz4 hd4 y87 he4
            by_cases hmy : st s.src.toNat < s.many
            · rw [if_pos hmy] at hg
              refine wpIn_cond (t := true) (y87.trans (by simp [hmy])) ?_
              exact hno' _ _ _ hz4 (hd4.trans hd_a3) mr3.low.drew (fun a' W' h1 h2 h3 h4 => hT a' W' h1 h2 h3 h4 hg)
            · rw [if_neg hmy] at hg
              refine wpIn_cond (t := false) (y87.trans (by simp [hmy])) (wpIn_skip ?_)
              have mr4 := mr3.below ((Below.refl W3.heap.size W3).drew)
              refine regionP14 (bx := bx) (b8 := b8) (dn := dn) (st := st) (s := s) (wideF_plain _) hz4 ((he4 2 (by omega)).trans w2) ((he4 11 (by omega)).trans w11) ((he4 12 (by omega)).trans w12) ((he4 8 (by omega)).trans w8) (w := W3.drew) hcd3 hxw mr4.w8 hbd8 hnd (by omega) (by omega) (by omega) (by omega) (by omega) (by omega) (fun i => by have := hst i; omega) ?_
              intro a5 W5 hb5 hz5 hd5 y9 he5
              have mr5 := (mr4.below hb5).stock (sold st s)
              have he : ∀ e : Nat, e ≠ 9 ∧ (e < 59 ∨ 95 ≤ e) → a5.eval (.tmp e) = a3.eval (.tmp e) := fun e h => (he5 e (by omega)).trans (he4 e (by omega))
              have z36 := (he 36 (by omega)).trans w36
              refine region_p 2 ?_
              intro K hK
              refine ListK.bin (i := 0) (u := .int .i64 (k : Int)) (u' := .int .i64 1) (v := .int .i64 ((k : Int) + 1)) rfl (by simp [z36]) (by simp) (add3 (by omega) (by omega) _) ?_
              refine ListK.move (i := 1) (v := .int .i64 ((k + 1 : Nat) : Int)) rfl (by simp [hz5]) ?_
              skip
              have hmu : ∀ b : Act, b.eval (.tmp 36) = .int .i64 ((k + 1 : Nat) : Int) → ord.length - (intOf (b.eval (.tmp 36))).toNat < ord.length - (intOf (a.eval (.tmp 36))).toNat := by
                intro b e
                rw [e, fr.t36]
                simp only [intOf]
                omega
              refine ListK.done (hK _ _ ⟨⟨k + 1, updB sn n, sold st s, dn, by omega, ⟨by simp only [size_put, hz5], by simp only [defers_put, hd5, hd4, hd_a3], ?_, ?_, ?_, ?_, ?_, ?_, ?_, ?_⟩, mr5, ?_, hg⟩, hmu _ (by simp [hz5])⟩)
              · exact (by simp [(he 2 (by omega)).trans w2])
              · exact (by simp [(he 3 (by omega)).trans w3])
              · exact (by simp [(he 7 (by omega)).trans w7])
              · exact (by simp [(he 8 (by omega)).trans w8])
              · exact (by simp [y9])
              · exact (by simp [(he 34 (by omega)).trans w34])
              · exact (by simp [(he 35 (by omega)).trans w35])
              · exact (by simp [hz5])
              · intro i
                have := sold_bound (s := s) (by omega) (by omega) hst i
                push_cast
                omega
  · obtain rfl : k = ord.length := by omega
    refine wpIn_seq (wpIn_cond (t := false) (by simp [hsz]) (wpIn_exit ?_))
    refine hN _ _ (by simp only [size_put, hsz]) (by simp only [defers_put, fr.df]) mr.low ?_
    rw [hg, List.drop_length]
    rfl
end Go.Proofs.Ytfcnombmphophaa

namespace Go.Proofs.Ytfcnombmphophaa
open Go.RowKit Go.Shelf

abbrev PP (W : World) (v : Bool) : Ending → World → Prop := fun e w' => e = .returned (.bool v) ∧ Below W.heap.size W w'
theorem neqT {x y : Operand} {m n : Int} (h : m ≠ n) (w : World) : (do eqGuard .neq 3 x y (.int .i64 m) (.int .i64 n); binOp .neq 3 (.int .i64 m) (.int .i64 n) : Sem Value).run Try.prog w = .ok (.bool true) w := by
  rw [neq3 w]
  simp [h]
theorem neqF {x y : Operand} {m n : Int} (h : m = n) (w : World) : (do eqGuard .neq 3 x y (.int .i64 m) (.int .i64 n); binOp .neq 3 (.int .i64 m) (.int .i64 n) : Sem Value).run Try.prog w = .ok (.bool false) w := by
  rw [neq3 w]
  simp [h]
theorem neq27T {x y : Operand} {m n : Int} (h : m ≠ n) (w : World) : (do eqGuard .neq 27 x y (.int .i64 m) (.int .i64 n); binOp .neq 27 (.int .i64 m) (.int .i64 n) : Sem Value).run Try.prog w = .ok (.bool true) w := by
  rw [neq27 w]
  simp [h]
theorem neq27F {x y : Operand} {m n : Int} (h : m = n) (w : World) : (do eqGuard .neq 27 x y (.int .i64 m) (.int .i64 n); binOp .neq 27 (.int .i64 m) (.int .i64 n) : Sem Value).run Try.prog w = .ok (.bool false) w := by
  rw [neq27 w]
  simp [h]

theorem ListK.lenW {ops : Array Oper} {K : Act → World → Prop} {k i d : Nat} {a : Act} {w : World} {ty : TypeId} {pos : String} {aft : Array Edge} {gd : Option (Nat × Bool)} {x : Operand} {tys : Array TypeId} {u v : Value} (hi : ops[i]? = some ⟨some d, .call { callee := .builtin .len, args := #[x], argTypes := tys }, ty, pos, aft, gd⟩)
    (hx : a.eval x = u) (hv : (builtin .len tys ty #[false] #[u]).run Try.prog w = .ok (.value v) w) (hc : (match x with | .const _ => true | _ => false) = false)
    (h : ListK Try.prog ops K k (i + 1) (a.put (some d) v) w) (hw : Region.wanted ⟨some d, .call { callee := .builtin .len, args := #[x], argTypes := tys }, ty, pos, aft, gd⟩ (yielded ops a.tmps) = true := by rfl) : ListK Try.prog ops K (k + 1) i a w :=
  ListK.valW hi hw (by cases x <;> simp_all [execOp, resolve, invoke]) h
set_option maxRecDepth 10000 in
set_option maxHeartbeats 2000000 in
theorem prove_any (o t : Int) (A A1 A2 : Option Addr) (l : List Sale) (c c1 c2 : Nat) (ord dys : List Int) (W : World) (hl : l.length ≤ 1000000) (hs : SalesAt W W.heap.size A l) (ho : IntsAt W W.heap.size A1 ord) (hd : IntsAt W W.heap.size A2 dys) :
    Calls Try.prog 19 #[.agg #[.int .i64 o, .int .i64 t, .slice A l.length c], .slice A1 ord.length c1, .slice A2 dys.length c2] W (PP W (proveB o t l ord dys)) := by
  refine (callsIn_wide (n := 5)).1 (callsIn_of_wp Try.func19 body19 trivial ?_ rfl)
  obtain ⟨a, ha⟩ : ∃ a : Act, a = { tmps := #[.agg #[.int .i64 o, .int .i64 t, .slice A l.length c], .slice A1 ord.length c1, .slice A2 dys.length c2] ++ Array.replicate (Try.f19.ntmps - (#[.agg #[.int .i64 o, .int .i64 t, .slice A l.length c], .slice A1 ord.length c1, .slice A2 dys.length c2] : Array Value).size) undef, defers := [] } := ⟨_, rfl⟩
  have hsz : a.tmps.size = 96 := by rw [ha]; simp [Try.ntmps19]
  have t0 : a.eval (.tmp 0) = .agg #[.int .i64 o, .int .i64 t, .slice A l.length c] := by rw [ha]; simp [Act.eval]
  have t1 : a.eval (.tmp 1) = .slice A1 ord.length c1 := by rw [ha]; simp [Act.eval]
  have t2 : a.eval (.tmp 2) = .slice A2 dys.length c2 := by rw [ha]; simp [Act.eval]
  have hdf : a.defers = [] := by rw [ha]
  rw [← ha]
  clear ha
  have hret : ∀ (a' : Act) (W' : World), a'.tmps.size = 96 → a'.defers = [] → a'.eval (.tmp 6) = .bool (proveB o t l ord dys) → Below W.heap.size W W' → bodyPost Try.prog Try.f19 (PP W (proveB o t l ord dys)) .ret a' W' := fun a' W' hz hdf h6 hb =>
    bodyPost_ret (v := .bool (proveB o t l ord dys)) (res1 Try.results19 h6) hdf ⟨rfl, hb⟩
  have hno : ∀ (a' : Act) (W' : World) (Q' : Exit → Act → World → Prop), a'.tmps.size = 96 → a'.defers = [] → Below W.heap.size W W' → proveB o t l ord dys = false → (∀ a' W', bodyPost Try.prog Try.f19 (PP W (proveB o t l ord dys)) .ret a' W' → Q' .ret a' W') → (Code.seq (.region 2 opsP2 false) .ret).wpIn Fence.wide 5 Try.prog Q' a' W' := by
    intro a' W' Q' hz hdf hb hf hQ'
    refine wpIn_seq (region_p 1 ?_)
    intro K hK
    refine ListK.assign (i := 0) (v := .bool false) rfl (by simp) ?_
    refine ListK.done (hK _ _ (wpIn_ret ?_))
    exact hQ' _ _ (hret _ _ (by simp only [size_put, hz]) (by simp only [defers_put, hdf]) (by simp [hz, hf]) hb)
  unfold code19
  refine wpIn_seq (region_p 2 ?_)
  intro K hK
  refine ListK.box (i := 0) (u := .agg #[.int .i64 o, .int .i64 t, .slice A l.length c]) rfl (by simp [t0]) (bx31 W _ _ _ _ _) ?_
  refine ListK.assign (i := 1) (v := .bool false) rfl (by simp) ?_
  refine ListK.done (hK _ _ ?_)
  clear hK K
  have wb := Whole.new W 31 #[.int .i64 o, .int .i64 t, .slice A l.length c]
  have hB1 : Below W.heap.size W (W.alloc (.cells #[.int .i64 o, .int .i64 t, .slice A l.length c] 31)) := (Below.refl _ W).alloc (Nat.le_refl _) _
  have hS1 := hB1.size
  generalize hb3 : W.heap.size = b3 at *
  generalize W.alloc (.cells #[.int .i64 o, .int .i64 t, .slice A l.length c] 31) = W1 at *
  have hs1 : SalesAt W1 W1.heap.size A l := (hs.below hB1 (Nat.le_refl _)).more hS1
  have h2 := wb.cell 2
  generalize hA : Act.put _ _ _ = a1
  have hz_a1 : a1.tmps.size = 96 := by rw [← hA]; simp only [size_put, hsz]
  have u1 : a1.eval (.tmp 1) = .slice A1 ord.length c1 := by rw [← hA]; exact (by simp [t1])
  have u2 : a1.eval (.tmp 2) = .slice A2 dys.length c2 := by rw [← hA]; exact (by simp [t2])
  have u3 : a1.eval (.tmp 3) = .pointer (some ⟨b3, 0, none⟩) := by rw [← hA]; exact (by simp [hsz])
  have hd_a1 : a1.defers = [] := by rw [← hA]; simp only [defers_put, hdf]
  clear hA
  by_cases h0 : fault o t l = 0
  · by_cases h1 : ord.length = l.length
    · by_cases h2' : dys.length = l.length
      · skip
        refine wpIn_seq (wpIn_seq (region_p 19 ?_))
        intro K hK
        refine ListK.load (i := 0) (p := ⟨b3, 0, none⟩) (v := .agg #[.int .i64 o, .int .i64 t, .slice A l.length c]) rfl (by simp [u3]) (ld31' ⟨wb.cell 0, wb.cell 1, wb.cell 2⟩) ?_
        refine ListK.call (i := 1) (vs := #[.agg #[.int .i64 o, .int .i64 t, .slice A l.length c]]) rfl (enters_of Try.func17 (by kernel_rfl) rfl) (by simp [hz_a1]) (((checkBatch_any o t A l c W1 hl hs1)).mono ?_)
        rintro _ W2 ⟨rfl, hb2⟩
        have wb2 := wb.below hb2 wb.lt
        have h22 := wb2.cell 2
        have hB2 : Below b3 W W2 := hB1.trans (hb2.mono hS1)
        refine ⟨_, rfl, ?_⟩
        refine ListK.bin (i := 2) (u := .int .i64 (fault o t l)) (u' := .int .i64 0) (v := .bool false) rfl (by simp [hz_a1]) (by simp) (neq27F h0 _) ?_
        refine ListK.move (i := 3) (v := .bool false) rfl (by simp [hz_a1]) ?_
        refine ListK.move (i := 4) (v := .slice A1 ord.length c1) rfl (by simp [u1]) ?_ (hw := wanted_g (e := 16) (b' := false) rfl (by simp [hz_a1]) rfl)
        refine ListK.lenW (i := 5) (u := .slice A1 ord.length c1) (v := .int .i64 ord.length) rfl (by simp [hz_a1]) (ln25 _ _ _ _ _) rfl ?_ (hw := wanted_g (e := 16) (b' := false) rfl (by simp [hz_a1]) rfl)
        refine ListK.field (i := 6) (u := .pointer (some ⟨b3, 0, none⟩)) (v := .pointer (some ⟨b3, 2, none⟩)) rfl (by simp [u3]) (fa31_2 _) ?_ (hw := wanted_g (e := 16) (b' := false) rfl (by simp [hz_a1]) rfl)
        refine ListK.load (i := 7) (p := ⟨b3, 2, none⟩) (v := .slice A l.length c) rfl (by simp [hz_a1]) (ld29 (h22)) ?_ (hw := wanted_g (e := 16) (b' := false) rfl (by simp [hz_a1]) rfl)
        refine ListK.lenW (i := 8) (u := .slice A l.length c) (v := .int .i64 l.length) rfl (by simp [hz_a1]) (ln29 _ _ _ _ _) rfl ?_ (hw := wanted_g (e := 16) (b' := false) rfl (by simp [hz_a1]) rfl)
        refine ListK.bin (i := 9) (u := .int .i64 (ord.length : Int)) (u' := .int .i64 (l.length : Int)) (v := .bool false) rfl (by simp [hz_a1]) (by simp [hz_a1]) (neqF (by omega) _) ?_ (hw := wanted_g (e := 16) (b' := false) rfl (by simp [hz_a1]) rfl)
        refine ListK.pick (i := 10) (b := false) (v := .bool false) rfl (by simp [hz_a1]) (by simp [hz_a1]) ?_
        refine ListK.move (i := 11) (v := .bool false) rfl (by simp [hz_a1]) ?_
        refine ListK.move (i := 12) (v := .slice A2 dys.length c2) rfl (by simp [u2]) ?_ (hw := wanted_g (e := 24) (b' := false) rfl (by simp [hz_a1]) rfl)
        refine ListK.lenW (i := 13) (u := .slice A2 dys.length c2) (v := .int .i64 dys.length) rfl (by simp [hz_a1]) (ln25 _ _ _ _ _) rfl ?_ (hw := wanted_g (e := 24) (b' := false) rfl (by simp [hz_a1]) rfl)
        refine ListK.field (i := 14) (u := .pointer (some ⟨b3, 0, none⟩)) (v := .pointer (some ⟨b3, 2, none⟩)) rfl (by simp [u3]) (fa31_2 _) ?_ (hw := wanted_g (e := 24) (b' := false) rfl (by simp [hz_a1]) rfl)
        refine ListK.load (i := 15) (p := ⟨b3, 2, none⟩) (v := .slice A l.length c) rfl (by simp [hz_a1]) (ld29 (h22)) ?_ (hw := wanted_g (e := 24) (b' := false) rfl (by simp [hz_a1]) rfl)
        refine ListK.lenW (i := 16) (u := .slice A l.length c) (v := .int .i64 l.length) rfl (by simp [hz_a1]) (ln29 _ _ _ _ _) rfl ?_ (hw := wanted_g (e := 24) (b' := false) rfl (by simp [hz_a1]) rfl)
        refine ListK.bin (i := 17) (u := .int .i64 (dys.length : Int)) (u' := .int .i64 (l.length : Int)) (v := .bool false) rfl (by simp [hz_a1]) (by simp [hz_a1]) (neqF (by omega) _) ?_ (hw := wanted_g (e := 24) (b' := false) rfl (by simp [hz_a1]) rfl)
        refine ListK.pick (i := 18) (b := false) (v := .bool false) rfl (by simp [hz_a1]) (by simp [hz_a1]) ?_
        refine ListK.done (hK _ _ ?_)
        clear hK K
        refine wpIn_cond (t := false) (by simp [hz_a1]) (wpIn_skip ?_)
        have hv := valid_of_fault h0
        have hpB : proveB o t l ord dys = proveGo l dys ord (fun _ => false) (upd (fun _ => 0) 0 t) 0 := by simp [proveB, h0, h1, h2']
        generalize hA : Act.put _ _ _ = a2
        have hz_a2 : a2.tmps.size = 96 := by rw [← hA]; simp only [size_put, hz_a1]
        have v1 : a2.eval (.tmp 1) = .slice A1 ord.length c1 := by rw [← hA]; exact (by simp [u1])
        have v2 : a2.eval (.tmp 2) = .slice A2 dys.length c2 := by rw [← hA]; exact (by simp [u2])
        have v3 : a2.eval (.tmp 3) = .pointer (some ⟨b3, 0, none⟩) := by rw [← hA]; exact (by simp [u3])
        have hd_a2 : a2.defers = [] := by rw [← hA]; simp only [defers_put, hd_a1]
        clear hA
        refine wpIn_seq (region_p 1 ?_)
        intro K hK
        refine ListK.alloc (i := 0) rfl (al82 W2) ?_
        refine ListK.done (hK _ _ ?_)
        clear hK K
        have wb3 := wb2.alloc (.cells (boolC fun _ => false) 82)
        have w73 := Whole.new W2 82 (boolC fun _ => false)
        have hB3 : Below b3 W (W2.alloc (.cells (boolC fun _ => false) 82)) := hB2.alloc (by have := hB2.size; omega) _
        have hb7 : b3 < W2.heap.size := wb2.lt
        generalize hb7e : W2.heap.size = b7 at *
        generalize W2.alloc (.cells (boolC fun _ => false) 82) = W3 at *
        refine wpIn_seq (region_p 5 ?_)
        intro K hK
        refine ListK.load (i := 0) (p := ⟨b3, 0, none⟩) (v := .agg #[.int .i64 o, .int .i64 t, .slice A l.length c]) rfl (by simp [v3]) (ld31' ⟨wb3.cell 0, wb3.cell 1, wb3.cell 2⟩) ?_
        refine ListK.call (i := 1) (vs := #[.agg #[.int .i64 o, .int .i64 t, .slice A l.length c]]) rfl (enters_of Try.func49 (by kernel_rfl) rfl) (by simp [hz_a2]) (((begun_any o t (.slice A l.length c) W3)).mono ?_)
        rintro _ W4 ⟨rfl, hb4⟩
        have wb4 := wb3.below hb4 wb3.lt
        have w74 := w73.below hb4 w73.lt
        have hB4 : Below b3 W W4 := hB3.trans (hb4.mono (by have := hB3.size; omega))
        have wb5 := wb4.alloc (.cells (stk fun _ => 0) 84)
        have w75 := w74.alloc (.cells (stk fun _ => 0) 84)
        have w85 := Whole.new W4 84 (stk fun _ => 0)
        have hB5 : Below b3 W (W4.alloc (.cells (stk fun _ => 0) 84)) := hB4.alloc (by have := hB4.size; omega) _
        have hb8 : b7 < W4.heap.size := w74.lt
        refine ⟨_, rfl, ?_⟩
        refine ListK.alloc (i := 2) rfl (al84 W4) ?_
        refine ListK.store (i := 3) (u := .pointer (some ⟨W4.heap.size, 0, none⟩)) (u' := .agg (stk (upd (fun _ => 0) 0 t))) rfl (by simp [hz_a2]) (by simp [hz_a2]) (st84 w85) ?_
        refine ListK.assign (i := 4) (v := .int .i64 0) rfl (by simp) ?_
        refine ListK.done (hK _ _ ?_)
        clear hK K
        have mr : MrP W (put6 (W4.alloc (.cells (stk fun _ => 0) 84)) W4.heap.size (upd (fun _ => 0) 0 t)) b3 b7 W4.heap.size o t A l.length c (fun _ => false) (upd (fun _ => 0) 0 t) :=
          ⟨wb5.far6 (by omega) _, w75.far6 (by omega) _, w85.put6 _, by rw [hb3]; exact below_put6 hB5 (by omega) _, by omega, by omega, by omega, by omega, by omega, by omega⟩
        refine wpIn_seq (wpIn_seq (region_p 3 ?_))
        intro K hK
        refine ListK.move (i := 0) (v := .slice A1 ord.length c1) rfl (by simp [v1]) ?_
        refine ListK.len (i := 1) (u := .slice A1 ord.length c1) (v := .int .i64 ord.length) rfl (by simp [hz_a2]) (ln25 _ _ _ _ _) rfl ?_
        refine ListK.move (i := 2) (v := .int .i64 0) rfl (by simp) ?_
        refine ListK.done (hK _ _ ?_)
        clear hK K
        refine loopP (c1 := c1) (c2 := c2) hv (by rw [hb3]; exact hs) (by rw [hb3]; exact ho) (by rw [hb3]; exact hd) h1 h2' ⟨by simp only [size_put, hz_a2], by simp only [defers_put, hd_a2], (by simp [v2]), (by simp [v3]), (by simp [hz_a2]), (by simp [hz_a2]), (by simp [hz_a2]), (by simp [hz_a2]), (by simp [hz_a2]), (by simp [hz_a2])⟩ mr ?_ ?_
        · intro a' W' hz hdf' h6 hb hgo
          exact hret a' W' hz hdf' (by rw [h6, hpB, hgo]) (by rw [← hb3]; exact hb)
        · intro a' W' hz hdf' hb hgo
          refine wpIn_seq (region_p 1 ?_)
          intro K hK
          refine ListK.assign (i := 0) (v := .bool true) rfl (by simp) ?_
          refine ListK.done (hK _ _ (wpIn_ret ?_))
          show bodyPost Try.prog Try.f19 (PP W (proveB o t l ord dys)) Exit.ret _ _
          exact hret _ _ (by simp only [size_put, hz]) (by simp only [defers_put, hdf']) (by rw [hpB, hgo]; exact (by simp [hz])) (by rw [← hb3]; exact hb)
      · skip
        refine wpIn_seq (wpIn_seq (region_p 19 ?_))
        intro K hK
        refine ListK.load (i := 0) (p := ⟨b3, 0, none⟩) (v := .agg #[.int .i64 o, .int .i64 t, .slice A l.length c]) rfl (by simp [u3]) (ld31' ⟨wb.cell 0, wb.cell 1, wb.cell 2⟩) ?_
        refine ListK.call (i := 1) (vs := #[.agg #[.int .i64 o, .int .i64 t, .slice A l.length c]]) rfl (enters_of Try.func17 (by kernel_rfl) rfl) (by simp [hz_a1]) (((checkBatch_any o t A l c W1 hl hs1)).mono ?_)
        rintro _ W2 ⟨rfl, hb2⟩
        have wb2 := wb.below hb2 wb.lt
        have h22 := wb2.cell 2
        have hB2 : Below b3 W W2 := hB1.trans (hb2.mono hS1)
        refine ⟨_, rfl, ?_⟩
        refine ListK.bin (i := 2) (u := .int .i64 (fault o t l)) (u' := .int .i64 0) (v := .bool false) rfl (by simp [hz_a1]) (by simp) (neq27F h0 _) ?_
        refine ListK.move (i := 3) (v := .bool false) rfl (by simp [hz_a1]) ?_
        refine ListK.move (i := 4) (v := .slice A1 ord.length c1) rfl (by simp [u1]) ?_ (hw := wanted_g (e := 16) (b' := false) rfl (by simp [hz_a1]) rfl)
        refine ListK.lenW (i := 5) (u := .slice A1 ord.length c1) (v := .int .i64 ord.length) rfl (by simp [hz_a1]) (ln25 _ _ _ _ _) rfl ?_ (hw := wanted_g (e := 16) (b' := false) rfl (by simp [hz_a1]) rfl)
        refine ListK.field (i := 6) (u := .pointer (some ⟨b3, 0, none⟩)) (v := .pointer (some ⟨b3, 2, none⟩)) rfl (by simp [u3]) (fa31_2 _) ?_ (hw := wanted_g (e := 16) (b' := false) rfl (by simp [hz_a1]) rfl)
        refine ListK.load (i := 7) (p := ⟨b3, 2, none⟩) (v := .slice A l.length c) rfl (by simp [hz_a1]) (ld29 (h22)) ?_ (hw := wanted_g (e := 16) (b' := false) rfl (by simp [hz_a1]) rfl)
        refine ListK.lenW (i := 8) (u := .slice A l.length c) (v := .int .i64 l.length) rfl (by simp [hz_a1]) (ln29 _ _ _ _ _) rfl ?_ (hw := wanted_g (e := 16) (b' := false) rfl (by simp [hz_a1]) rfl)
        refine ListK.bin (i := 9) (u := .int .i64 (ord.length : Int)) (u' := .int .i64 (l.length : Int)) (v := .bool false) rfl (by simp [hz_a1]) (by simp [hz_a1]) (neqF (by omega) _) ?_ (hw := wanted_g (e := 16) (b' := false) rfl (by simp [hz_a1]) rfl)
        refine ListK.pick (i := 10) (b := false) (v := .bool false) rfl (by simp [hz_a1]) (by simp [hz_a1]) ?_
        refine ListK.move (i := 11) (v := .bool false) rfl (by simp [hz_a1]) ?_
        refine ListK.move (i := 12) (v := .slice A2 dys.length c2) rfl (by simp [u2]) ?_ (hw := wanted_g (e := 24) (b' := false) rfl (by simp [hz_a1]) rfl)
        refine ListK.lenW (i := 13) (u := .slice A2 dys.length c2) (v := .int .i64 dys.length) rfl (by simp [hz_a1]) (ln25 _ _ _ _ _) rfl ?_ (hw := wanted_g (e := 24) (b' := false) rfl (by simp [hz_a1]) rfl)
        refine ListK.field (i := 14) (u := .pointer (some ⟨b3, 0, none⟩)) (v := .pointer (some ⟨b3, 2, none⟩)) rfl (by simp [u3]) (fa31_2 _) ?_ (hw := wanted_g (e := 24) (b' := false) rfl (by simp [hz_a1]) rfl)
        refine ListK.load (i := 15) (p := ⟨b3, 2, none⟩) (v := .slice A l.length c) rfl (by simp [hz_a1]) (ld29 (h22)) ?_ (hw := wanted_g (e := 24) (b' := false) rfl (by simp [hz_a1]) rfl)
        refine ListK.lenW (i := 16) (u := .slice A l.length c) (v := .int .i64 l.length) rfl (by simp [hz_a1]) (ln29 _ _ _ _ _) rfl ?_ (hw := wanted_g (e := 24) (b' := false) rfl (by simp [hz_a1]) rfl)
        refine ListK.bin (i := 17) (u := .int .i64 (dys.length : Int)) (u' := .int .i64 (l.length : Int)) (v := .bool true) rfl (by simp [hz_a1]) (by simp [hz_a1]) (neqT (by omega) _) ?_ (hw := wanted_g (e := 24) (b' := false) rfl (by simp [hz_a1]) rfl)
        refine ListK.pick (i := 18) (b := false) (v := .bool true) rfl (by simp [hz_a1]) (by simp [hz_a1]) ?_
        refine ListK.done (hK _ _ ?_)
        clear hK K
        refine wpIn_cond (t := true) (by simp [hz_a1]) ?_
        refine hno _ _ _ ?_ ?_ hB2 (by simp [proveB, h2']) (fun _ _ h => h)
        · simp only [size_put, hz_a1]
        · simp only [defers_put, hd_a1]
    · skip
      refine wpIn_seq (wpIn_seq (region_p 19 ?_))
      intro K hK
      refine ListK.load (i := 0) (p := ⟨b3, 0, none⟩) (v := .agg #[.int .i64 o, .int .i64 t, .slice A l.length c]) rfl (by simp [u3]) (ld31' ⟨wb.cell 0, wb.cell 1, wb.cell 2⟩) ?_
      refine ListK.call (i := 1) (vs := #[.agg #[.int .i64 o, .int .i64 t, .slice A l.length c]]) rfl (enters_of Try.func17 (by kernel_rfl) rfl) (by simp [hz_a1]) (((checkBatch_any o t A l c W1 hl hs1)).mono ?_)
      rintro _ W2 ⟨rfl, hb2⟩
      have wb2 := wb.below hb2 wb.lt
      have h22 := wb2.cell 2
      have hB2 : Below b3 W W2 := hB1.trans (hb2.mono hS1)
      refine ⟨_, rfl, ?_⟩
      refine ListK.bin (i := 2) (u := .int .i64 (fault o t l)) (u' := .int .i64 0) (v := .bool false) rfl (by simp [hz_a1]) (by simp) (neq27F h0 _) ?_
      refine ListK.move (i := 3) (v := .bool false) rfl (by simp [hz_a1]) ?_
      refine ListK.move (i := 4) (v := .slice A1 ord.length c1) rfl (by simp [u1]) ?_ (hw := wanted_g (e := 16) (b' := false) rfl (by simp [hz_a1]) rfl)
      refine ListK.lenW (i := 5) (u := .slice A1 ord.length c1) (v := .int .i64 ord.length) rfl (by simp [hz_a1]) (ln25 _ _ _ _ _) rfl ?_ (hw := wanted_g (e := 16) (b' := false) rfl (by simp [hz_a1]) rfl)
      refine ListK.field (i := 6) (u := .pointer (some ⟨b3, 0, none⟩)) (v := .pointer (some ⟨b3, 2, none⟩)) rfl (by simp [u3]) (fa31_2 _) ?_ (hw := wanted_g (e := 16) (b' := false) rfl (by simp [hz_a1]) rfl)
      refine ListK.load (i := 7) (p := ⟨b3, 2, none⟩) (v := .slice A l.length c) rfl (by simp [hz_a1]) (ld29 (h22)) ?_ (hw := wanted_g (e := 16) (b' := false) rfl (by simp [hz_a1]) rfl)
      refine ListK.lenW (i := 8) (u := .slice A l.length c) (v := .int .i64 l.length) rfl (by simp [hz_a1]) (ln29 _ _ _ _ _) rfl ?_ (hw := wanted_g (e := 16) (b' := false) rfl (by simp [hz_a1]) rfl)
      refine ListK.bin (i := 9) (u := .int .i64 (ord.length : Int)) (u' := .int .i64 (l.length : Int)) (v := .bool true) rfl (by simp [hz_a1]) (by simp [hz_a1]) (neqT (by omega) _) ?_ (hw := wanted_g (e := 16) (b' := false) rfl (by simp [hz_a1]) rfl)
      refine ListK.pick (i := 10) (b := false) (v := .bool true) rfl (by simp [hz_a1]) (by simp [hz_a1]) ?_
      refine ListK.move (i := 11) (v := .bool true) rfl (by simp [hz_a1]) ?_
      refine ListK.passG (i := 12) (e := 24) (b' := true) rfl rfl (by simp [hz_a1]) rfl ?_
      refine ListK.passG (i := 13) (e := 24) (b' := true) rfl rfl (by simp [hz_a1]) rfl ?_
      refine ListK.passG (i := 14) (e := 24) (b' := true) rfl rfl (by simp [hz_a1]) rfl ?_
      refine ListK.passG (i := 15) (e := 24) (b' := true) rfl rfl (by simp [hz_a1]) rfl ?_
      refine ListK.passG (i := 16) (e := 24) (b' := true) rfl rfl (by simp [hz_a1]) rfl ?_
      refine ListK.passG (i := 17) (e := 24) (b' := true) rfl rfl (by simp [hz_a1]) rfl ?_
      refine ListK.pick (i := 18) (b := true) (v := .bool true) rfl (by simp [hz_a1]) (by simp) ?_
      refine ListK.done (hK _ _ ?_)
      clear hK K
      refine wpIn_cond (t := true) (by simp [hz_a1]) ?_
      refine hno _ _ _ ?_ ?_ hB2 (by simp [proveB, h1]) (fun _ _ h => h)
      · simp only [size_put, hz_a1]
      · simp only [defers_put, hd_a1]
  · skip
    refine wpIn_seq (wpIn_seq (region_p 19 ?_))
    intro K hK
    refine ListK.load (i := 0) (p := ⟨b3, 0, none⟩) (v := .agg #[.int .i64 o, .int .i64 t, .slice A l.length c]) rfl (by simp [u3]) (ld31' ⟨wb.cell 0, wb.cell 1, wb.cell 2⟩) ?_
    refine ListK.call (i := 1) (vs := #[.agg #[.int .i64 o, .int .i64 t, .slice A l.length c]]) rfl (enters_of Try.func17 (by kernel_rfl) rfl) (by simp [hz_a1]) (((checkBatch_any o t A l c W1 hl hs1)).mono ?_)
    rintro _ W2 ⟨rfl, hb2⟩
    have wb2 := wb.below hb2 wb.lt
    have h22 := wb2.cell 2
    have hB2 : Below b3 W W2 := hB1.trans (hb2.mono hS1)
    refine ⟨_, rfl, ?_⟩
    refine ListK.bin (i := 2) (u := .int .i64 (fault o t l)) (u' := .int .i64 0) (v := .bool true) rfl (by simp [hz_a1]) (by simp) (neq27T h0 _) ?_
    refine ListK.move (i := 3) (v := .bool true) rfl (by simp [hz_a1]) ?_
    refine ListK.passG (i := 4) (e := 16) (b' := true) rfl rfl (by simp [hz_a1]) rfl ?_
    refine ListK.passG (i := 5) (e := 16) (b' := true) rfl rfl (by simp [hz_a1]) rfl ?_
    refine ListK.passG (i := 6) (e := 16) (b' := true) rfl rfl (by simp [hz_a1]) rfl ?_
    refine ListK.passG (i := 7) (e := 16) (b' := true) rfl rfl (by simp [hz_a1]) rfl ?_
    refine ListK.passG (i := 8) (e := 16) (b' := true) rfl rfl (by simp [hz_a1]) rfl ?_
    refine ListK.passG (i := 9) (e := 16) (b' := true) rfl rfl (by simp [hz_a1]) rfl ?_
    refine ListK.pick (i := 10) (b := true) (v := .bool true) rfl (by simp [hz_a1]) (by simp) ?_
    refine ListK.move (i := 11) (v := .bool true) rfl (by simp [hz_a1]) ?_
    refine ListK.passG (i := 12) (e := 24) (b' := true) rfl rfl (by simp [hz_a1]) rfl ?_
    refine ListK.passG (i := 13) (e := 24) (b' := true) rfl rfl (by simp [hz_a1]) rfl ?_
    refine ListK.passG (i := 14) (e := 24) (b' := true) rfl rfl (by simp [hz_a1]) rfl ?_
    refine ListK.passG (i := 15) (e := 24) (b' := true) rfl rfl (by simp [hz_a1]) rfl ?_
    refine ListK.passG (i := 16) (e := 24) (b' := true) rfl rfl (by simp [hz_a1]) rfl ?_
    refine ListK.passG (i := 17) (e := 24) (b' := true) rfl rfl (by simp [hz_a1]) rfl ?_
    refine ListK.pick (i := 18) (b := true) (v := .bool true) rfl (by simp [hz_a1]) (by simp) ?_
    refine ListK.done (hK _ _ ?_)
    clear hK K
    refine wpIn_cond (t := true) (by simp [hz_a1]) ?_
    refine hno _ _ _ ?_ ?_ hB2 (by simp [proveB, h0]) (fun _ _ h => h)
    · simp only [size_put, hz_a1]
    · simp only [defers_put, hd_a1]
end Go.Proofs.Ytfcnombmphophaa

namespace Go.Proofs.Ytfcnombmphophaa
open Go.RowKit Go.Shelf
/-- All blocks are kept but those of X. -/
structure Else (X : Nat → Prop) (W W' : World) : Prop where
  base : Below 0 W W'
  block : ∀ k, k < W.heap.size → ¬ X k → W'.heap[k]? = W.heap[k]?
section
variable {X Y : Nat → Prop} {W W' W'' : World}
theorem Else.refl (X : Nat → Prop) (W : World) : Else X W W := ⟨Below.refl _ _, fun _ _ _ => rfl⟩
theorem Else.size (h : Else X W W') : W.heap.size ≤ W'.heap.size := h.base.size
theorem Else.trans (h : Else X W W') (k : Else X W' W'') : Else X W W'' := ⟨h.base.trans k.base, fun i hi hx => (k.block i (Nat.lt_of_lt_of_le hi h.size) hx).trans (h.block i hi hx)⟩
theorem Else.of_below (X : Nat → Prop) (h : Below W.heap.size W W') : Else X W W' := ⟨h.mono (Nat.zero_le _), fun i hi _ => h.block i hi⟩
theorem Else.mono (h : Else X W W') (hXY : ∀ k, k < W.heap.size → X k → Y k) : Else Y W W' := ⟨h.base, fun i hi hx => h.block i hi (fun h2 => hx (hXY i hi h2))⟩
theorem Else.setCell (h : Else X W W') {p : Addr} (hp : X p.block ∨ W.heap.size ≤ p.block) (u : Value) : Else X W (W'.setCell p u) :=
  ⟨h.base.setCell (Nat.zero_le _) u, fun i hi hx => (Below.heap_setCell W' p u i (by rintro rfl; rcases hp with hp | hp; exact hx hp; omega)).trans (h.block i hi hx)⟩
theorem Else.alloc (h : Else X W W') (o : Obj) : Else X W (W'.alloc o) := h.trans (Else.of_below X ((Below.refl _ _).alloc (Nat.le_refl _) o))
theorem Else.drew (h : Else X W W') : Else X W W'.drew := ⟨h.base.drew, h.block⟩
theorem Else.cell (h : Else X W W') {p : Addr} {v : Value} (hp : ¬ X p.block) (hc : W.cell? p = some v) : W'.cell? p = some v :=
  (World.cell?_of_block (w := W) (h.block p.block (block_lt_of_cell hc) hp)).trans hc
theorem Else.whole (h : Else X W W') {g : Nat} {t : TypeId} {cs : Array Value} (hp : ¬ X g) (hw : Whole W g t cs) : Whole W' g t cs := (h.block g hw.lt hp).trans hw
theorem Else.row (h : Else X W W') {g n : Nat} {f : Nat → Int} (hp : ¬ X g) (hw : Row W g n f) : Row W' g n f := fun d hd =>
  ⟨h.cell hp (hw d hd).1, (World.frozen?_of_block (w := W) (h.block g (block_lt_of_cell (hw d hd).1) hp)).trans (hw d hd).2⟩
theorem Else.below (h : Else X W W') {B : Nat} (hB : B ≤ W.heap.size) (hX : ∀ k, k < B → ¬ X k) : Below B W W' :=
  ⟨h.base.os, h.base.tape, h.base.output, h.base.size, fun k hk => h.block k (Nat.lt_of_lt_of_le hk hB) (hX k hk)⟩
end
theorem Row.congr {W : World} {g n : Nat} {f f' : Nat → Int} (h : Row W g n f) (he : ∀ j, j < n → f j = f' j) : Row W g n f' := fun d hd => by rw [← he d hd]; exact h d hd
theorem may_free {ops : Array Oper} {listed : Array Bool} {R : World → Prop} {T : Nat → Bool} {i : Nat} {oi : Oper} (h1 : ops[i]? = some oi) (h2 : Region.noSelect ops = true) (h3 : (Region.ready .any ops listed).contains i = true) (h4 : looseB .any ops (fun _ => false) i oi = true) :
    May ops (KpR R T) listed (fun _ => True) (fun _ => false) i oi := ⟨h1, h2, h3, h4, fun _ _ _ _ _ _ => trivial, fun _ _ h => h⟩
attribute [local irreducible] AnyK StepK

noncomputable def opsV3 : Array Oper := (Try.f58.body.bind (regionOf 3)).getD #[]
set_option maxRecDepth 10000 in
set_option maxHeartbeats 2000000 in
theorem regionV3 {F : Fence} {n : Nat} (hF : WideF F Try.prog) {Q : Exit → Act → World → Prop} {a : Act} {w : World} {g c m i j : Nat} {x y : Int} (hsz : a.tmps.size = 28)
    (t0 : a.eval (.tmp 0) = .slice (some ⟨g, 0, none⟩) m c) (t2 : a.eval (.tmp 2) = .int .i64 i) (t3 : a.eval (.tmp 3) = .int .i64 j)
    (m0 : w.cell? ⟨g, i, none⟩ = some (.int .i64 x)) (m1 : w.cell? ⟨g, j, none⟩ = some (.int .i64 y)) (hi : i < m) (hj : j < m) (hij : i < j) (f0 : w.frozen? ⟨g, i, none⟩ = false) (f1 : w.frozen? ⟨g, j, none⟩ = false)
    (hK : ∀ a', a'.tmps.size = 28 → a'.defers = a.defers → (∀ e : Nat, e < 14 → a'.eval (.tmp e) = a.eval (.tmp e)) → Q .normal a' ((w.drew.setCell ⟨g, i, none⟩ (.int .i64 y)).setCell ⟨g, j, none⟩ (.int .i64 x))) :
    (Code.region 3 opsV3 true).wpIn F n Try.prog Q a w := by
  have hR : (fun w : World => w.cell? ⟨g, i, none⟩ = some (.int .i64 x) ∧ w.cell? ⟨g, j, none⟩ = some (.int .i64 y)) w.drew := ⟨m0, m1⟩
  have hB : Below w.heap.size w w.drew := (Below.refl _ _).drew
  refine region_K (KpR (fun w => w.cell? ⟨g, i, none⟩ = some (.int .i64 x) ∧ w.cell? ⟨g, j, none⟩ = some (.int .i64 y)) (fun k => k == 13 || k == 15)) hF (by kernel_rfl) Try.mixed ?_
  change AnyK _ _ _ _ 16 (Array.replicate 16 false) _ _
  have f0 : w.drew.frozen? ⟨g, i, none⟩ = false := f0
  have f1 : w.drew.frozen? ⟨g, j, none⟩ = false := f1
  clear hB
  generalize w.drew = W at *
  refine AnyK.move (i := 0) (may_free rfl (by kernel_rfl) (by kernel_rfl) (by kernel_rfl)) (v := .slice (some ⟨g, 0, none⟩) m c) (by simp [t0]) trivial ?_
  refine AnyK.move (i := 1) (may_free rfl (by kernel_rfl) (by kernel_rfl) (by kernel_rfl)) (v := .int .i64 i) (by simp [t2]) trivial ?_
  refine AnyK.move (i := 2) (may_free rfl (by kernel_rfl) (by kernel_rfl) (by kernel_rfl)) (v := .slice (some ⟨g, 0, none⟩) m c) (by simp [t0]) trivial ?_
  refine AnyK.move (i := 3) (may_free rfl (by kernel_rfl) (by kernel_rfl) (by kernel_rfl)) (v := .int .i64 j) (by simp [t3]) trivial ?_
  refine AnyK.move (i := 4) (may_free rfl (by kernel_rfl) (by kernel_rfl) (by kernel_rfl)) (v := .slice (some ⟨g, 0, none⟩) m c) (by simp [t0]) trivial ?_
  refine AnyK.move (i := 5) (may_free rfl (by kernel_rfl) (by kernel_rfl) (by kernel_rfl)) (v := .int .i64 j) (by simp [t3]) trivial ?_
  refine AnyK.index (i := 6) (may_free rfl (by kernel_rfl) (by kernel_rfl) (by kernel_rfl)) (u := .slice (some ⟨g, 0, none⟩) m c) (u' := .int .i64 j) (v := .pointer (some ⟨g, j, none⟩)) (by simp [hsz]) (by simp [hsz]) (fun w => ix25 hj w) trivial ?_
  refine AnyK.load (i := 7) may_o (p := ⟨g, j, none⟩) (v := .int .i64 y) (by simp [hsz]) (fun w hw => ld3 hw.2) hR ?_
  refine AnyK.move (i := 8) (may_free rfl (by kernel_rfl) (by kernel_rfl) (by kernel_rfl)) (v := .slice (some ⟨g, 0, none⟩) m c) (by simp [t0]) trivial ?_
  refine AnyK.move (i := 9) (may_free rfl (by kernel_rfl) (by kernel_rfl) (by kernel_rfl)) (v := .int .i64 i) (by simp [t2]) trivial ?_
  refine AnyK.index (i := 10) (may_free rfl (by kernel_rfl) (by kernel_rfl) (by kernel_rfl)) (u := .slice (some ⟨g, 0, none⟩) m c) (u' := .int .i64 i) (v := .pointer (some ⟨g, i, none⟩)) (by simp [hsz]) (by simp [hsz]) (fun w => ix25 hi w) trivial ?_
  refine AnyK.load (i := 11) may_o (p := ⟨g, i, none⟩) (v := .int .i64 x) (by simp [hsz]) (fun w hw => ld3 hw.1) hR ?_
  refine AnyK.index (i := 12) (may_free rfl (by kernel_rfl) (by kernel_rfl) (by kernel_rfl)) (u := .slice (some ⟨g, 0, none⟩) m c) (u' := .int .i64 i) (v := .pointer (some ⟨g, i, none⟩)) (by simp [hsz]) (by simp [hsz]) (fun w => ix25 hi w) trivial ?_
  refine AnyK.pick1 (i := 13) (by kernel_rfl) ?_
  refine StepK.store (i := 13) (u := .pointer (some ⟨g, i, none⟩)) (u' := .int .i64 y) rfl (by simp [hsz]) (by simp [hsz]) (st3 hR.1 f0) (fun h => by cases h) ?_
  refine AnyK.index (i := 14) (may_free rfl (by kernel_rfl) (by kernel_rfl) (by kernel_rfl)) (u := .slice (some ⟨g, 0, none⟩) m c) (u' := .int .i64 j) (v := .pointer (some ⟨g, j, none⟩)) (by simp [hsz]) (by simp [hsz]) (fun w => ix25 hj w) trivial ?_
  refine AnyK.pick1 (i := 15) (by kernel_rfl) ?_
  refine StepK.store (i := 15) (u := .pointer (some ⟨g, j, none⟩)) (u' := .int .i64 x) rfl (by simp [hsz]) (by simp [hsz]) (st3 ((World.cell?_setCell_other _ _ _ _ (by intro h2; cases h2; omega)).trans hR.2) (by rw [World.frozen?_setCell]; exact f1)) (fun h => by cases h) ?_
  refine AnyK.done (by kernel_rfl) (hK _ ?_ ?_ ?_)
  · simp only [size_put, hsz]
  · simp only [defers_put]
  · intro e he
    iterate 14 refine (ev_ne (by omega)).trans ?_
    rfl
end Go.Proofs.Ytfcnombmphophaa

namespace Go.Proofs.Ytfcnombmphophaa
open Go.RowKit Go.Shelf
noncomputable def opsV0 : Array Oper := (Try.f58.body.bind (regionOf 0)).getD #[]
noncomputable def opsV1 : Array Oper := (Try.f58.body.bind (regionOf 1)).getD #[]
noncomputable def opsV2 : Array Oper := (Try.f58.body.bind (regionOf 2)).getD #[]
noncomputable def roundV : Code := .seq (.seq (.region 1 opsV1 false) (.cond (.tmp 9) .skip (.exit 0))) (.seq (.block 1 (.region 3 opsV3 true)) (.region 2 opsV2 false))
noncomputable def code58 : Code := .seq (.region 0 opsV0 false) (.block 0 (.loop roundV))
theorem body58 : Try.f58.body = some code58 := by kernel_rfl

abbrev VP (W : World) (g n : Nat) (f : Nat → Int) : Ending → World → Prop := fun e w' => e = .returned (.tuple #[]) ∧ Row w' g n (fun i => f (n - 1 - i)) ∧ Else (fun k => k = g) W w'

set_option maxRecDepth 10000 in
set_option maxHeartbeats 1000000 in
theorem reverse_row (g n c : Nat) (f : Nat → Int) (W : World) (hn : n ≤ 1000) (hr : Row W g n f) :
    Calls Try.prog 58 #[.slice (some ⟨g, 0, none⟩) n c] W (VP W g n f) := by
  refine (callsIn_wide (n := 5)).1 (callsIn_of_wp Try.func58 body58 trivial ?_ rfl)
  obtain ⟨a, ha⟩ : ∃ a : Act, a = { tmps := #[.slice (some ⟨g, 0, none⟩) n c] ++ Array.replicate (Try.f58.ntmps - (#[.slice (some ⟨g, 0, none⟩) n c] : Array Value).size) undef, defers := [] } := ⟨_, rfl⟩
  have hsz : a.tmps.size = 28 := by rw [ha]; simp [Try.ntmps58]
  have t0 : a.eval (.tmp 0) = .slice (some ⟨g, 0, none⟩) n c := by rw [ha]; simp [Act.eval]
  have hdf : a.defers = [] := by rw [ha]
  rw [← ha]
  clear ha
  unfold code58
  refine wpIn_seq (region_p 5 ?_)
  intro K hK
  refine ListK.move (i := 0) (v := .slice (some ⟨g, 0, none⟩) n c) rfl (by simp [t0]) ?_
  refine ListK.len (i := 1) (u := .slice (some ⟨g, 0, none⟩) n c) (v := .int .i64 n) rfl (by simp [hsz]) (ln25 _ _ _ _ _) rfl ?_
  refine ListK.bin (i := 2) (u := .int .i64 (n : Int)) (u' := .int .i64 1) (v := .int .i64 ((n : Int) - 1)) rfl (by simp [hsz]) (by simp) (sub3 (by omega) (by omega) _) ?_
  refine ListK.assign (i := 3) (v := .int .i64 0) rfl (by simp) ?_
  refine ListK.assign (i := 4) (v := .int .i64 ((n : Int) - 1)) rfl (by simp [hsz]) ?_
  refine ListK.done (hK _ _ ?_)
  clear hK K
  refine wpIn_block (wpIn_loop (fun a W' => ∃ i : Nat, i ≤ n ∧ a.tmps.size = 28 ∧ a.defers = [] ∧ a.eval (.tmp 0) = .slice (some ⟨g, 0, none⟩) n c ∧ a.eval (.tmp 2) = .int .i64 i ∧ a.eval (.tmp 3) = .int .i64 ((n : Int) - 1 - i) ∧ Row W' g n (fun j => if j < i ∨ n ≤ i + j then f (n - 1 - j) else f j) ∧ Else (fun k => k = g) W W') (fun a _ => n - (intOf (a.eval (.tmp 2))).toNat)
    ⟨0, Nat.zero_le _, by simp only [size_put, hsz], by simp only [defers_put, hdf], (by simp [t0]), (by simp [hsz]), (by simp [hsz]), hr.congr (fun j hj => by rw [if_neg (by omega)]), Else.refl _ _⟩ ?_)
  clear hsz t0 hdf a
  rintro a W1 ⟨i, hi, hsz, hdf, t0, t2, t3, hr1, he⟩
  refine wpIn_seq (wpIn_seq (region_p 3 ?_))
  intro K hK
  refine ListK.move (i := 0) (v := .int .i64 (i : Int)) rfl (by simp [t2]) ?_
  refine ListK.move (i := 1) (v := .int .i64 ((n : Int) - 1 - i)) rfl (by simp [t3]) ?_
  refine ListK.bin (i := 2) (u := .int .i64 (i : Int)) (u' := .int .i64 ((n : Int) - 1 - i)) (v := .bool (decide ((i : Int) < ((n : Int) - 1 - i)))) rfl (by simp [hsz]) (by simp [hsz]) (lss3 _) ?_
  refine ListK.done (hK _ _ ?_)
  clear hK K
  by_cases hlt : (i : Int) < (n : Int) - 1 - i
  · refine wpIn_cond (t := true) (by simp [hsz, hlt]) (wpIn_skip ?_)
    obtain ⟨j, hj⟩ : ∃ j : Nat, (n : Int) - 1 - i = j := ⟨n - 1 - i, by omega⟩
    rw [hj] at t3 hlt ⊢
    generalize hA : Act.put _ _ _ = a1
    have hz_a1 : a1.tmps.size = 28 := by rw [← hA]; simp only [size_put, hsz]
    have u0 : a1.eval (.tmp 0) = .slice (some ⟨g, 0, none⟩) n c := by rw [← hA]; exact (by simp [t0])
    have u2 : a1.eval (.tmp 2) = .int .i64 (i : Int) := by rw [← hA]; exact (by simp [t2])
    have u3 : a1.eval (.tmp 3) = .int .i64 (j : Int) := by rw [← hA]; exact (by simp [t3])
    have hd_a1 : a1.defers = [] := by rw [← hA]; simp only [defers_put, hdf]
    clear hA
    have h0 := hr1 i (by omega)
    have h1 := hr1 j (by omega)
    simp only [] at h0 h1
    rw [if_neg (by omega)] at h0
    rw [if_neg (by omega)] at h1
    show (Code.seq _ _).wpIn _ _ _ _ _ _
    refine wpIn_seq (wpIn_block (regionV3 (wideF_plain _) hz_a1 u0 u2 u3 h0.1 h1.1 (by omega) (by omega) (by omega) h0.2 h1.2 ?_))
    intro a2 hz2 hd2 he2
    have v2 := (he2 2 (by omega)).trans u2
    have v3 := (he2 3 (by omega)).trans u3
    have v0 := (he2 0 (by omega)).trans u0
    have hr2 := ((hr1.drew.set (d := i) (by omega) (f j)).set (d := j) (by omega) (f i))
    have he3 : Else (fun k => k = g) W ((W1.drew.setCell ⟨g, i, none⟩ (.int .i64 (f j))).setCell ⟨g, j, none⟩ (.int .i64 (f i))) := (he.drew.setCell (p := ⟨g, i, none⟩) (.inl rfl) _).setCell (p := ⟨g, j, none⟩) (.inl rfl) _
    generalize (W1.drew.setCell ⟨g, i, none⟩ (.int .i64 (f j))).setCell ⟨g, j, none⟩ (.int .i64 (f i)) = W2 at *
    refine region_p 6 ?_
    intro K hK
    refine ListK.move (i := 0) (v := .int .i64 (i : Int)) rfl (by simp [v2]) ?_
    refine ListK.bin (i := 1) (u := .int .i64 (i : Int)) (u' := .int .i64 1) (v := .int .i64 ((i : Int) + 1)) rfl (by simp [hz2]) (by simp) (add3 (by omega) (by omega) _) ?_
    refine ListK.move (i := 2) (v := .int .i64 (j : Int)) rfl (by simp [v3]) ?_
    refine ListK.bin (i := 3) (u := .int .i64 (j : Int)) (u' := .int .i64 1) (v := .int .i64 ((j : Int) - 1)) rfl (by simp [hz2]) (by simp) (sub3 (by omega) (by omega) _) ?_
    refine ListK.assign (i := 4) (v := .int .i64 ((i : Int) + 1)) rfl (by simp [hz2]) ?_
    refine ListK.assign (i := 5) (v := .int .i64 ((j : Int) - 1)) rfl (by simp [hz2]) ?_
    skip
    have hmu : ∀ b : Act, b.eval (.tmp 2) = .int .i64 ((i + 1 : Nat) : Int) → n - (intOf (b.eval (.tmp 2))).toNat < n - (intOf (a.eval (.tmp 2))).toNat := by
      intro b e
      rw [e, t2]
      simp only [intOf]
      omega
    refine ListK.done (hK _ _ ⟨⟨i + 1, by omega, by simp only [size_put, hz2], by simp only [defers_put, hd2, hd_a1], (by simp [v0]), (by simp [hz2]), ?_, hr2.congr ?_, he3⟩, hmu _ (by simp [hz2])⟩)
    · rw [show (n : Int) - 1 - ((i + 1 : Nat) : Int) = (j : Int) - 1 by omega]
      exact (by simp [hz2])
    · intro k hk
      by_cases e1 : k = j
      · subst e1
        rw [upd, if_pos rfl, if_pos (by omega), show n - 1 - k = i by omega]
      · rw [upd, if_neg e1]
        by_cases e2 : k = i
        · subst e2
          rw [upd, if_pos rfl, if_pos (by omega), show n - 1 - k = j by omega]
        · rw [upd, if_neg e2]
          by_cases e3 : k < i ∨ n ≤ i + k
          · rw [if_pos e3, if_pos (by omega)]
          · rw [if_neg e3, if_neg (by omega)]
  · refine wpIn_cond (t := false) (by simp [hsz, hlt]) (wpIn_exit ?_)
    show bodyPost Try.prog Try.f58 (VP W g n f) Exit.normal _ _
    refine bodyPost_end (v := .tuple #[]) (by simp [results, Try.results58]) (by simp only [defers_put, hdf]) ⟨rfl, hr1.congr ?_, he⟩
    intro j hj
    by_cases e3 : j < i ∨ n ≤ i + j
    · rw [if_pos e3]
    · rw [if_neg e3, show n - 1 - j = j by omega]

set_option maxRecDepth 10000 in
set_option maxHeartbeats 1000000 in
theorem reverse_nil (W : World) : Calls Try.prog 58 #[.slice none 0 0] W fun e w' => e = .returned (.tuple #[]) ∧ W = w' := by
  go_enter Try.func58, Try.ntmps58
  go_wp2
  go_loop [2, 3] (fun i j => i = .int .i64 0 ∧ j = .int .i64 (-1)) (fun _ _ => 0)
  case atStart => exact ⟨rfl, rfl⟩
  case round =>
    obtain ⟨rfl, rfl⟩ := hrel
    go_wp2
    go_end0
    exact ⟨rfl, rfl⟩
end Go.Proofs.Ytfcnombmphophaa

namespace Go.Proofs.Ytfcnombmphophaa
open Go.RowKit Go.Shelf

abbrev stV (d : Nat) (x : Int) : Value := .agg #[.int .i64 d, .int .i64 x]
theorem und92 (w : World) : (underlying 92).run Try.prog w = .ok (.map 96 4) w := by kernel_rfl
theorem chk96 (b : Bool) (d : Int) (x : Int) (w : World) : (Instr.checkKey b 10000 96 (.agg #[.int .i64 d, .int .i64 x])).run Try.prog w = .ok () w := by kernel_rfl
theorem eqF (d d' : Int) (w : World) : (Op.equalIn 9999 94 (.int .i64 d) (.int .i64 d')).run Try.prog w = .ok (d == d') w := by kernel_rfl
theorem eqG (d d' : Int) (w : World) : (Op.equalIn 9999 3 (.int .i64 d) (.int .i64 d')).run Try.prog w = .ok (d == d') w := by kernel_rfl
/-- The package in which the struct's fields are declared. -/
noncomputable def ownPkg : String := match Try.prog.underlying 96 with
  | some (.struct fs) => (fs[0]?.map (fun x => x.pkgPath)).getD ""
  | _ => ""
theorem und96 (w : World) : (underlying 96).run Try.prog w = .ok (.struct #[{ name := "done", type := 94, offset := 0, embedded := false, tag := "", pkgPath := ownPkg, byteOffset := 0 }, { name := "day", type := 3, offset := 1, embedded := false, tag := "", pkgPath := ownPkg, byteOffset := 8 }]) w := by kernel_rfl
theorem p94 (d x : Int) (w : World) : (part 94 #[.int .i64 d, .int .i64 x] 0).run Try.prog w = .ok (.int .i64 d) w := by kernel_rfl
theorem p3 (d x : Int) (w : World) : (part 3 #[.int .i64 d, .int .i64 x] 1).run Try.prog w = .ok (.int .i64 x) w := by kernel_rfl
theorem eq96 (d x d' x' : Int) (w : World) : (Op.equal 96 (.agg #[.int .i64 d, .int .i64 x]) (.agg #[.int .i64 d', .int .i64 x'])).run Try.prog w = .ok (if d == d' then x == x' else false) w := by
  show (Op.equalIn (9999 + 1) 96 _ _).run Try.prog w = _
  unfold Op.equalIn
  simp only [Sem.run_bind, und96, Result.andThen]
  cases h : (d == d') with
  | false => simp [p94, p3, eqF, eqG, h]
  | true =>
    simp [p94, p3, eqF, eqG, h]
    by_cases e : x = x' <;> simp [e]

/-- What a key's entry is found to be. -/
theorem findA (d x : Int) (w : World) : ∀ (l : List MapEntry) (i : Nat), (∀ e, e ∈ l → ∃ d' x' : Int, e.key = .agg #[.int .i64 d', .int .i64 x']) →
    ∃ r, (Instr.findAsking 96 (.agg #[.int .i64 d, .int .i64 x]) l i).run Try.prog w = .ok r w ∧ (∀ j v, r = some (j, v) → ∃ e, i ≤ j ∧ l[j - i]? = some e ∧ e.key = .agg #[.int .i64 d, .int .i64 x] ∧ e.val = v)
  | [], _, _ => ⟨none, by simp [Instr.findAsking], fun _ _ h => by cases h⟩
  | e :: l, i, hk => by
    obtain ⟨d', x', he⟩ := hk e List.mem_cons_self
    obtain ⟨r, hr, hp⟩ := findA d x w l (i + 1) (fun e' h' => hk e' (List.mem_cons_of_mem _ h'))
    by_cases h : d = d' ∧ x = x'
    · obtain ⟨rfl, rfl⟩ := h
      refine ⟨some (i, e.val), ?_, ?_⟩
      · simp [Instr.findAsking, he, eq96]
      · rintro j v h2
        cases h2
        exact ⟨e, Nat.le_refl _, by simp, he, rfl⟩
    · refine ⟨r, ?_, ?_⟩
      · have hb : (if d == d' then x == x' else false) = false := by
          by_cases h1 : d = d'
          · have : x ≠ x' := fun h2 => h ⟨h1, h2⟩
            simp [h1, this]
          · simp [h1]
        simp only [Instr.findAsking, he, Sem.run_bind, eq96, hb, Result.andThen]
        simpa using hr
      · intro j v h2
        obtain ⟨e', h3, h4, h5⟩ := hp j v h2
        refine ⟨e', by omega, ?_, h5⟩
        rw [show j - i = (j - (i + 1)) + 1 by omega]
        simpa using h4
theorem findK (d x : Int) (w : World) (l : List MapEntry) (hk : ∀ e, e ∈ l → ∃ d' x' : Int, e.key = .agg #[.int .i64 d', .int .i64 x']) :
    ∃ r, (Instr.findKey 96 (.agg #[.int .i64 d, .int .i64 x]) l).run Try.prog w = .ok r w ∧ (∀ j v, r = some (j, v) → ∃ e, l[j]? = some e ∧ e.key = .agg #[.int .i64 d, .int .i64 x] ∧ e.val = v) := by
  cases l with
  | nil => exact ⟨none, by simp [Instr.findKey, Instr.findNow], fun _ _ h => by cases h⟩
  | cons e l =>
    obtain ⟨r, hr, hp⟩ := findA d x w (e :: l) 0 hk
    refine ⟨r, ?_, fun j v h => ?_⟩
    · simp only [Instr.findKey, Sem.run_bind, und96, Result.andThen, Instr.findNow, Instr.sameNow]
      exact hr
    · obtain ⟨e', _, h4, h5⟩ := hp j v h
      exact ⟨e', by simpa using h4, h5⟩

/-- The map at block M holds states from which there is no way on. -/
def GoneAt (W : World) (M : Nat) (bad : Nat → Int → Prop) : Prop :=
  ∃ es ck, W.heap[M]? = some (.map es ck) ∧ ∀ e, e ∈ es.toList → ∃ d x, e.key = stV d x ∧ e.val = .bool true ∧ bad d x
section
variable {W : World} {M : Nat} {bad : Nat → Int → Prop}
theorem GoneAt.keep {W' : World} (h : GoneAt W M bad) (hk : W'.heap[M]? = W.heap[M]?) : GoneAt W' M bad := by
  obtain ⟨es, ck, h1, h2⟩ := h
  exact ⟨es, ck, hk.trans h1, h2⟩
theorem GoneAt.lt (h : GoneAt W M bad) : M < W.heap.size := by
  obtain ⟨es, ck, h1, _⟩ := h
  exact (Array.getElem?_eq_some_iff.1 h1).1
theorem GoneAt.look (h : GoneAt W M bad) (d : Nat) (x : Int) : ∃ b, (Instr.lookup 92 (.map (some M)) (stV d x) false).run Try.prog W = .ok (.bool b) W ∧ (b = true → bad d x) := by
  obtain ⟨es, ck, h1, h2⟩ := h
  obtain ⟨r, hr, hp⟩ := findK d x W es.toList (fun e he => by obtain ⟨d', x', h3, _⟩ := h2 e he; exact ⟨_, _, h3⟩)
  have hg : (getObj M).run Try.prog W = .ok (.map es ck) W := by simp [getObj, Sem.run, h1]
  have hz : (zeroValue 4).run Try.prog W = .ok (.bool false) W := by kernel_rfl
  cases r with
  | none =>
    refine ⟨false, ?_, fun h => by cases h⟩
    simp only [Instr.lookup, Sem.run_bind, und92, Result.andThen, hg, chk96, hr, hz, Sem.run_pure]
    simp []
  | some jv =>
    obtain ⟨j, v⟩ := jv
    obtain ⟨e, he, hek, hev⟩ := hp j v rfl
    obtain ⟨d', x', h3, h4, h5⟩ := h2 e (List.mem_of_getElem? he)
    rw [h3] at hek
    obtain ⟨hd, hx⟩ : d' = d ∧ x' = x := by
      have := hek
      simp [stV] at this
      omega
    subst hd
    subst hx
    refine ⟨true, ?_, fun _ => h5⟩
    rw [← hev, h4] at hr
    simp only [Instr.lookup, Sem.run_bind, und92, Result.andThen, hg, chk96, hr, Sem.run_pure]
    simp []
theorem GoneAt.put (h : GoneAt W M bad) (d : Nat) (x : Int) (hb : bad d x) : ∃ W', (Instr.mapUpdate 92 (.map (some M)) (stV d x) (.bool true)).run Try.prog W = .ok () W' ∧ GoneAt W' M bad ∧ Else (fun k => k = M) W W' := by
  have hlt := h.lt
  obtain ⟨es, ck, h1, h2⟩ := h
  obtain ⟨r, hr, hp⟩ := findK d x W es.toList (fun e he => by obtain ⟨d', x', h3, _⟩ := h2 e he; exact ⟨_, _, h3⟩)
  have hg : (getObj M).run Try.prog W = .ok (.map es ck) W := by simp [getObj, Sem.run, h1]
  have hs : ∀ o, (setObj M o).run Try.prog W = .ok () (W.putObj M o) := fun o => by simp [setObj, Sem.run, h1, World.putObj]
  have hE : ∀ o, Else (fun k => k = M) W (W.putObj M o) := fun o => ⟨⟨rfl, rfl, rfl, by simp [World.putObj], fun k hk => by omega⟩, fun k _ hx => World.putObj_heap_other hx⟩
  cases r with
  | none =>
    refine ⟨W.putObj M (.map (es.push { key := stV d x, val := .bool true, born := ck }) (ck + 1)), ?_, ⟨_, _, World.putObj_heap_same hlt, fun e he => ?_⟩, hE _⟩
    · simp only [Instr.mapUpdate, Sem.run_bind, und92, Result.andThen, hg, chk96, hr, hs]
    · rw [Array.toList_push, List.mem_append] at he
      rcases he with he | he
      · exact h2 e he
      · simp at he
        subst he
        exact ⟨d, x, rfl, rfl, hb⟩
  | some jv =>
    obtain ⟨j, v⟩ := jv
    obtain ⟨e, he, hek, hev⟩ := hp j v rfl
    have hj : es[j]? = some e := by rw [← Array.getElem?_toList]; exact he
    have hks : (Instr.keyThatStays (stV d x) (stV d x)).run Try.prog W = .ok (stV d x) W := by simp [Instr.keyThatStays, Instr.sameBits]
    refine ⟨W.putObj M (.map (es.modify j fun e => { e with key := stV d x, val := .bool true }) ck), ?_, ⟨_, _, World.putObj_heap_same hlt, fun e' he' => ?_⟩, hE _⟩
    · simp only [Instr.mapUpdate, Sem.run_bind, und92, Result.andThen, hg, chk96, hr, hj, hek, Option.map_some, Option.getD_some]
      simp [hks, hs]
    · obtain ⟨i, hi⟩ := List.mem_iff_getElem?.1 he'
      rw [Array.getElem?_toList, Array.getElem?_modify] at hi
      split at hi
      · rename_i hji
        subst hji
        rw [hj] at hi
        simp at hi
        subst hi
        exact ⟨d, x, rfl, rfl, hb⟩
      · exact h2 e' (List.mem_iff_getElem?.2 ⟨i, by rw [Array.getElem?_toList]; exact hi⟩)
end
end Go.Proofs.Ytfcnombmphophaa

namespace Go.Proofs.Ytfcnombmphophaa
open Go.RowKit Go.Shelf
/-- A way on from a state: sale by sale, each as early as it can be, until all are done. -/
def PathOk (t : Int) (l : List Sale) : Nat → Int → List Nat → Prop
  | d, _, [] => d = 2 ^ l.length - 1
  | d, x, n :: ns => nextB t l d n = true ∧ max x (saleOf l n).lo ≤ (saleOf l n).hi ∧ PathOk t l (d ||| 2 ^ n) (max x (saleOf l n).lo) ns
def NoWay (t : Int) (l : List Sale) (d : Nat) (x : Int) : Prop := ¬ ∃ ns, PathOk t l d x ns
/-- The days of a way. -/
def daysOf (l : List Sale) : Int → List Nat → (Nat → Int) → Nat → Int
  | _, [], f => f
  | x, n :: ns, f => upd (daysOf l (max x (saleOf l n).lo) ns f) n (max x (saleOf l n).lo)
theorem PathOk.len {t : Int} {l : List Sale} : ∀ (ns : List Nat) (d : Nat) (x : Int), d < 2 ^ l.length → PathOk t l d x ns → d + ns.length < 2 ^ l.length
  | [], d, x, hd, _ => by simpa using hd
  | n :: ns, d, x, hd, h => by
    obtain ⟨h1, _, h3⟩ := h
    have hn : n < l.length := by simp [nextB] at h1; exact h1.1
    have hb : d.testBit n = false := by simp [nextB] at h1; exact h1.2.1
    have hlt : d < d ||| 2 ^ n := by
      refine Nat.lt_of_le_of_ne Nat.left_le_or ?_
      intro e
      have := Nat.testBit_or d (2 ^ n) n
      rw [← e, hb, Nat.testBit_two_pow_self] at this
      cases this
    have := PathOk.len ns _ _ (or_lt hd hn) h3
    simp only [List.length_cons]
    omega
theorem or_gt {d n : Nat} (hb : d.testBit n = false) : d < d ||| 2 ^ n := by
  refine Nat.lt_of_le_of_ne Nat.left_le_or ?_
  intro e
  have := Nat.testBit_or d (2 ^ n) n
  rw [← e, hb, Nat.testBit_two_pow_self] at this
  cases this

/-- Where the blocks of Order lie. -/
structure Geo (H B kb ge gl b2 b3 b5 b6 b7 M gd : Nat) : Prop where
  lo : B ≤ b2 ∧ B ≤ M ∧ B ≤ gd
  n2 : kb ≠ b2 ∧ ge ≠ b2 ∧ gl ≠ b2 ∧ b5 ≠ b2 ∧ b6 ≠ b2 ∧ b7 ≠ b2 ∧ b3 ≠ b2 ∧ M ≠ b2 ∧ gd ≠ b2
  nM : kb ≠ M ∧ ge ≠ M ∧ gl ≠ M ∧ b5 ≠ M ∧ b6 ≠ M ∧ b7 ≠ M ∧ b3 ≠ M ∧ gd ≠ M
  ng : kb ≠ gd ∧ ge ≠ gd ∧ gl ≠ gd ∧ b5 ≠ gd ∧ b6 ≠ gd ∧ b7 ≠ gd ∧ b3 ≠ gd
  lt : kb < H ∧ ge < H ∧ gl < H ∧ b5 < H ∧ b6 < H ∧ b7 < H ∧ b3 < H ∧ M < H ∧ gd < H ∧ b2 < H ∧ B ≤ H
/-- The memory of Order while the search runs. -/
structure Og (H B kb ge gl ce cl b2 b3 b5 b6 b7 M gd cd : Nat) (o t : Int) (A : Option Addr) (l : List Sale) (c : Nat) (W : World) : Prop where
  bk : BookAt W B kb ge gl ce cl o t A l c
  c5 : Whole W b5 89 #[.pointer (some ⟨kb, 0, none⟩)]
  c6 : Whole W b6 92 #[.map (some M)]
  c7 : Whole W b7 93 #[.func (.func 54) #[] #[.pointer (some ⟨b5, 0, none⟩), .pointer (some ⟨b6, 0, none⟩), .pointer (some ⟨b7, 0, none⟩), .pointer (some ⟨b2, 0, none⟩), .pointer (some ⟨b3, 0, none⟩)]]
  c3 : Whole W b3 25 #[.slice (some ⟨gd, 0, none⟩) l.length cd]
  gn : GoneAt W M (NoWay t l)
  hH : H ≤ W.heap.size
section
variable {H B kb ge gl ce cl b2 b3 b5 b6 b7 M gd cd : Nat} {o t : Int} {A : Option Addr} {l : List Sale} {c : Nat} {W W' : World} {Z : Nat → Prop}
theorem BookAt.else (b : BookAt W B kb ge gl ce cl o t A l c) (he : Else Z W W') (h1 : ∀ k, k < B → ¬ Z k) (h2 : ¬ Z kb) (h3 : ¬ Z ge) (h4 : ¬ Z gl) : BookAt W' B kb ge gl ce cl o t A l c :=
  ⟨⟨he.cell h2 b.ba.c0, he.cell h2 b.ba.c1, he.cell h2 b.ba.c2, b.ba.sales.keep fun b' o' hlt => World.cell?_of_block (he.block b' (Nat.lt_of_lt_of_le hlt b.le) (h1 b' hlt))⟩, he.cell h2 b.c3, he.cell h2 b.c4, fun d hd => he.cell h3 (b.e d hd), fun d hd => he.cell h4 (b.f d hd), Nat.le_trans b.le he.size⟩
theorem Og.keep (h : Og H B kb ge gl ce cl b2 b3 b5 b6 b7 M gd cd o t A l c W) (g : Geo H B kb ge gl b2 b3 b5 b6 b7 M gd) (he : Else Z W W') (hz : ∀ k, k < H → Z k → k = b2 ∨ k = M ∨ k = gd) (hm : GoneAt W' M (NoWay t l)) :
    Og H B kb ge gl ce cl b2 b3 b5 b6 b7 M gd cd o t A l c W' := by
  obtain ⟨l1, l2, l3, l4, l5, l6, l7, l8, l9, l10, l11⟩ := g.lt
  have hn : ∀ k, k < H → k ≠ b2 → k ≠ M → k ≠ gd → ¬ Z k := fun k h0 h1 h2 h3 hk => by rcases hz k h0 hk with e | e | e <;> contradiction
  obtain ⟨a1, a2, a3⟩ := g.lo
  obtain ⟨p1, p2, p3, p4, p5, p6, p7, -, -⟩ := g.n2
  obtain ⟨q1, q2, q3, q4, q5, q6, q7, -⟩ := g.nM
  obtain ⟨r1, r2, r3, r4, r5, r6, r7⟩ := g.ng
  exact ⟨h.bk.else he (fun k hk => hn k (Nat.lt_of_lt_of_le hk l11) (Nat.ne_of_lt (Nat.lt_of_lt_of_le hk a1)) (Nat.ne_of_lt (Nat.lt_of_lt_of_le hk a2)) (Nat.ne_of_lt (Nat.lt_of_lt_of_le hk a3))) (hn kb l1 p1 q1 r1) (hn ge l2 p2 q2 r2) (hn gl l3 p3 q3 r3),
    he.whole (hn b5 l4 p4 q4 r4) h.c5, he.whole (hn b6 l5 p5 q5 r5) h.c6, he.whole (hn b7 l6 p6 q6 r6) h.c7, he.whole (hn b3 l7 p7 q7 r7) h.c3, hm, Nat.le_trans h.hH he.size⟩
theorem Og.keep' (h : Og H B kb ge gl ce cl b2 b3 b5 b6 b7 M gd cd o t A l c W) (g : Geo H B kb ge gl b2 b3 b5 b6 b7 M gd) (he : Else Z W W') (hz : ∀ k, k < H → Z k → k = b2 ∨ k = gd) :
    Og H B kb ge gl ce cl b2 b3 b5 b6 b7 M gd cd o t A l c W' :=
  h.keep g he (fun k hk hzk => by rcases hz k hk hzk with e | e <;> simp [e]) (h.gn.keep (he.block M h.gn.lt (fun hz2 => by rcases hz M g.lt.2.2.2.2.2.2.2.1 hz2 with e | e; exact g.n2.2.2.2.2.2.2.2.1 e; exact g.nM.2.2.2.2.2.2.2 e.symm)))
theorem Og.below (h : Og H B kb ge gl ce cl b2 b3 b5 b6 b7 M gd cd o t A l c W) (g : Geo H B kb ge gl b2 b3 b5 b6 b7 M gd) (hb : Below W.heap.size W W') : Og H B kb ge gl ce cl b2 b3 b5 b6 b7 M gd cd o t A l c W' :=
  h.keep' g (Else.of_below (fun _ => False) hb) (fun _ _ h => h.elim)
end
theorem Else.of_grown {W W' : World} {row : Option Nat} (hg : W.grownBy W' row) : Else (fun k => some k = row) W W' :=
  ⟨⟨hg.os, hg.tape, hg.output, hg.size, fun k hk => by omega⟩, fun k hk hx => hg.block k hk (fun e => hx e)⟩
theorem KeepsC.of_else {X : Nat → Prop} {W W' : World} (h : Else X W W') : KeepsC X W W' := ⟨h.size, fun b _ _ _ hx hc => (h.block b (Array.getElem?_eq_some_iff.1 hc).1 hx).trans hc⟩

section
variable {P : Program} {ops : Array Oper} {K : Act → World → Prop} {Kp : Nat → World → World → Prop} {fuel : Nat} {listed : Array Bool} {a : Act} {w : World} {i d : Nat} {ty : TypeId} {pos : String} {aft : Array Edge} {gd : Option (Nat × Bool)}
theorem StepK.callC {f : FuncId} {fo : Operand} {caps : Array Value} {args : Array Operand} {tys : Array TypeId} {vs : Array Value} (hi : ops[i]? = some ⟨some d, .call { callee := .value fo, args := args, argTypes := tys }, ty, pos, aft, gd⟩)
    (he : ∀ args w, (callFunc f args).run P w = .ok (.enter f args) w) (hf : a.eval fo = .func (.func f) #[] caps) (hp : args.map a.eval = vs)
    (h : Calls P f (vs ++ caps) w fun e w' => ∃ v, e = .returned v ∧ Kp i w w' ∧ AnyK P ops K Kp fuel (listed.setIfInBounds i true) (a.put (some d) v) w')
    (hw : Region.wanted ⟨some d, .call { callee := .value fo, args := args, argTypes := tys }, ty, pos, aft, gd⟩ (yielded ops a.tmps) = true := by rfl) : StepK P ops K Kp fuel listed a w i := by
  unfold StepK opG
  simp only [hi]
  rw [if_pos hw]
  simp only [Oper.wp, execOp, resolve, hp, hf, Deferred.ofValue]
  simp [invoke, he, Oper.upon]
  refine h.mono ?_
  rintro e w' ⟨v, rfl, h1, h2⟩
  exact ⟨h1, h2⟩
end
theorem eql94 {x y : Operand} {m n : Int} (w : World) : (do eqGuard .eql 94 x y (.int .i64 m) (.int .i64 n); binOp .eql 94 (.int .i64 m) (.int .i64 n) : Sem Value).run Try.prog w = .ok (.bool (m == n)) w := by
  go_simp
theorem fa96_0 {b o : Nat} (w : World) : (Instr.fieldAt 96 (.pointer (some ⟨b, o, none⟩)) 0).run Try.prog w = .ok (.pointer (some ⟨b, o, none⟩)) w := by
  go_simp
theorem fa96_1 {b o : Nat} (w : World) : (Instr.fieldAt 96 (.pointer (some ⟨b, o, none⟩)) 1).run Try.prog w = .ok (.pointer (some ⟨b, o + 1, none⟩)) w := by
  go_simp
theorem ld93 {w : World} {p : Addr} {v : Value} (h : w.cell? p = some v) : (Instr.loadAt 93 (.pointer (some p))).run Try.prog w = .ok v w := by
  go_simp
theorem ld92 {w : World} {p : Addr} {v : Value} (h : w.cell? p = some v) : (Instr.loadAt 92 (.pointer (some p))).run Try.prog w = .ok v w := by
  go_simp
theorem bd96 (x y : Int) (w : World) : (Instr.build 96 #[(0, .int .i64 x), (1, .int .i64 y)]).run Try.prog w = .ok (.agg #[.int .i64 x, .int .i64 y]) w := by
  go_simp
attribute [local irreducible] AnyK StepK

noncomputable def opsZ1 : Array Oper := (Try.f54.body.bind (regionOf 1)).getD #[]
set_option maxRecDepth 10000 in
set_option maxHeartbeats 2000000 in
theorem regionZ1 {F : Fence} {n : Nat} (hF : WideF F Try.prog) {Q : Exit → Act → World → Prop} {a : Act} {w : World} {bs b5 kb d m : Nat} (hsz : a.tmps.size = 56)
    (t6 : a.eval (.tmp 6) = .pointer (some ⟨bs, 0, none⟩)) (t1 : a.eval (.tmp 1) = .pointer (some ⟨b5, 0, none⟩))
    (m0 : w.cell? ⟨bs, 0, none⟩ = some (.int .i64 d)) (m1 : w.cell? ⟨b5, 0, none⟩ = some (.pointer (some ⟨kb, 0, none⟩))) (hw : ∀ W : World, W.heap = w.heap → Calls Try.prog 55 #[.pointer (some ⟨kb, 0, none⟩)] W fun e w' => e = .returned (.int .i64 m) ∧ W = w')
    (hK : ∀ a', a'.tmps.size = 56 → a'.defers = a.defers → a'.eval (.tmp 15) = .bool (decide (d = m)) → (∀ e : Nat, e < 11 ∨ 16 ≤ e → a'.eval (.tmp e) = a.eval (.tmp e)) → Q .normal a' w.drew) :
    (Code.region 1 opsZ1 true).wpIn F n Try.prog Q a w := by
  have hR : (fun w : World => w.cell? ⟨bs, 0, none⟩ = some (.int .i64 d) ∧ w.cell? ⟨b5, 0, none⟩ = some (.pointer (some ⟨kb, 0, none⟩))) w.drew := ⟨m0, m1⟩
  have hB : Below w.heap.size w w.drew := (Below.refl _ _).drew
  refine region_K (KpR (fun w => w.cell? ⟨bs, 0, none⟩ = some (.int .i64 d) ∧ w.cell? ⟨b5, 0, none⟩ = some (.pointer (some ⟨kb, 0, none⟩))) (fun _ => false)) hF (by kernel_rfl) Try.mixed ?_
  change AnyK _ _ _ _ 5 (Array.replicate 5 false) _ _
  clear hB
  obtain ⟨W, hW⟩ : ∃ W, W = w.drew := ⟨_, rfl⟩
  rw [← hW] at hR hK ⊢
  refine AnyK.field (i := 0) may_o (u := .pointer (some ⟨bs, 0, none⟩)) (v := .pointer (some ⟨bs, 0, none⟩)) (by simp [t6]) (fun w => fa96_0 w) hR ?_
  refine AnyK.load (i := 1) may_o (p := ⟨bs, 0, none⟩) (v := .int .i64 d) (by simp [hsz]) (fun w hw => ld94 hw.1) hR ?_
  refine AnyK.load (i := 2) may_o (p := ⟨b5, 0, none⟩) (v := .pointer (some ⟨kb, 0, none⟩)) (by simp [t1]) (fun w hw => ld89 hw.2) hR ?_
  refine AnyK.pick1 (i := 3) (by kernel_rfl) ?_
  refine StepK.call (i := 3) (f := 55) (vs := #[.pointer (some ⟨kb, 0, none⟩)]) rfl (enters_of Try.func55 (by kernel_rfl) rfl) (by simp) (by simp [hsz]) ((hw W (by rw [hW]; rfl)).mono ?_)
  rintro _ _ ⟨rfl, rfl⟩
  refine ⟨_, rfl, fun _ h => h, ?_⟩
  refine AnyK.bin (i := 4) may_o (u := .int .i64 d) (u' := .int .i64 m) (v := .bool (decide (d = m))) (by simp [hsz]) (by simp [hsz]) (fun w => by rw [eql94 w]; congr 2; rw [Bool.eq_iff_iff]; simp; omega) hR ?_
  refine AnyK.done (by kernel_rfl) (hK _ ?_ ?_ ?_ ?_)
  · simp only [size_put, hsz]
  · simp only [defers_put]
  · exact (by simp [hsz])
  · intro e he
    iterate 5 refine (ev_ne (by omega)).trans ?_
    rfl

noncomputable def opsZ10 : Array Oper := (Try.f54.body.bind (regionOf 10)).getD #[]
set_option maxRecDepth 10000 in
set_option maxHeartbeats 2000000 in
theorem regionZ10 {F : Fence} {nF : Nat} (hF : WideF F Try.prog) {Q : Exit → Act → World → Prop} {a : Act} {w : World} {b2 b3 b5 b6 b7 bs d n : Nat} {on : Int} {X : Bool → World → Prop} {Z : Nat → Prop} (hsz : a.tmps.size = 56)
    (t3 : a.eval (.tmp 3) = .pointer (some ⟨b7, 0, none⟩)) (t6 : a.eval (.tmp 6) = .pointer (some ⟨bs, 0, none⟩)) (t8 : a.eval (.tmp 8) = .int .i64 n) (t10 : a.eval (.tmp 10) = .int .i64 on)
    (m0 : w.cell? ⟨b7, 0, none⟩ = some (.func (.func 54) #[] #[.pointer (some ⟨b5, 0, none⟩), .pointer (some ⟨b6, 0, none⟩), .pointer (some ⟨b7, 0, none⟩), .pointer (some ⟨b2, 0, none⟩), .pointer (some ⟨b3, 0, none⟩)])) (m1 : w.cell? ⟨bs, 0, none⟩ = some (.int .i64 d)) (hd6 : d < 65536) (hk : n < 16) (hc : ∀ W, Below w.heap.size w W → Calls Try.prog 54 (#[stV (d ||| 2 ^ n) on] ++ #[.pointer (some ⟨b5, 0, none⟩), .pointer (some ⟨b6, 0, none⟩), .pointer (some ⟨b7, 0, none⟩), .pointer (some ⟨b2, 0, none⟩), .pointer (some ⟨b3, 0, none⟩)]) W fun e w' => ∃ b, e = .returned (.bool b) ∧ X b w' ∧ Else Z W w') (hz7 : ¬ Z b7) (hzs : ¬ Z bs)
    (hK : ∀ a' W' b, X b W' → a'.tmps.size = 56 → a'.defers = a.defers → a'.eval (.tmp 45) = .bool b → (∀ e : Nat, e < 37 ∨ 46 ≤ e → a'.eval (.tmp e) = a.eval (.tmp e)) → Q .normal a' W') :
    (Code.region 10 opsZ10 true).wpIn F nF Try.prog Q a w := by
  have hR : (fun w : World => w.cell? ⟨b7, 0, none⟩ = some (.func (.func 54) #[] #[.pointer (some ⟨b5, 0, none⟩), .pointer (some ⟨b6, 0, none⟩), .pointer (some ⟨b7, 0, none⟩), .pointer (some ⟨b2, 0, none⟩), .pointer (some ⟨b3, 0, none⟩)]) ∧ w.cell? ⟨bs, 0, none⟩ = some (.int .i64 d)) w.drew := ⟨m0, m1⟩
  have hB : Below w.heap.size w w.drew := (Below.refl _ _).drew
  refine region_K (KpR (fun w => w.cell? ⟨b7, 0, none⟩ = some (.func (.func 54) #[] #[.pointer (some ⟨b5, 0, none⟩), .pointer (some ⟨b6, 0, none⟩), .pointer (some ⟨b7, 0, none⟩), .pointer (some ⟨b2, 0, none⟩), .pointer (some ⟨b3, 0, none⟩)]) ∧ w.cell? ⟨bs, 0, none⟩ = some (.int .i64 d)) (fun _ => false)) hF (by kernel_rfl) Try.mixed ?_
  change AnyK _ _ _ _ 9 (Array.replicate 9 false) _ _
  generalize w.drew = W at *
  refine AnyK.load (i := 0) may_o (p := ⟨b7, 0, none⟩) (v := .func (.func 54) #[] #[.pointer (some ⟨b5, 0, none⟩), .pointer (some ⟨b6, 0, none⟩), .pointer (some ⟨b7, 0, none⟩), .pointer (some ⟨b2, 0, none⟩), .pointer (some ⟨b3, 0, none⟩)]) (by simp [t3]) (fun w hw => ld93 hw.1) hR ?_
  refine AnyK.field (i := 1) may_o (u := .pointer (some ⟨bs, 0, none⟩)) (v := .pointer (some ⟨bs, 0, none⟩)) (by simp [t6]) (fun w => fa96_0 w) hR ?_
  refine AnyK.load (i := 2) may_o (p := ⟨bs, 0, none⟩) (v := .int .i64 d) (by simp [hsz]) (fun w hw => ld94 hw.2) hR ?_
  refine AnyK.move (i := 3) may_o (v := .int .i64 n) (by simp [t8]) hR ?_
  refine AnyK.bin (i := 4) may_o (u := .int .i64 (1)) (u' := .int .i64 n) (v := .int .i64 ((2 ^ n : Nat) : Int)) (by simp) (by simp [hsz]) (fun w => sh94 hk w) hR ?_
  refine AnyK.bin (i := 5) may_o (u := .int .i64 d) (u' := .int .i64 ((2 ^ n : Nat) : Int)) (v := .int .i64 ((d ||| 2 ^ n : Nat) : Int)) (by simp [hsz]) (by simp [hsz]) (fun w => or94 hd6 (by have := Nat.pow_lt_pow_right (a := 2) (by omega) hk; omega) w) hR ?_
  refine AnyK.move (i := 6) may_o (v := .int .i64 on) (by simp [t10]) hR ?_
  refine AnyK.bld (i := 7) may_o (ps := #[(0, .int .i64 ((d ||| 2 ^ n : Nat) : Int)), (1, .int .i64 on)]) (v := stV (d ||| 2 ^ n) on) (by simp [hsz]) (fun w => bd96 _ _ w) hR ?_
  refine AnyK.pick1 (i := 8) (by kernel_rfl) ?_
  refine StepK.callC (i := 8) (f := 54) (caps := #[.pointer (some ⟨b5, 0, none⟩), .pointer (some ⟨b6, 0, none⟩), .pointer (some ⟨b7, 0, none⟩), .pointer (some ⟨b2, 0, none⟩), .pointer (some ⟨b3, 0, none⟩)]) (vs := #[stV (d ||| 2 ^ n) on]) rfl (enters_of Try.func54 (by kernel_rfl) rfl) (by simp [hsz]) (by simp [hsz]) ((hc W hB).mono ?_)
  rintro _ W8 ⟨b, rfl, hx, he⟩
  refine ⟨_, rfl, (fun _ hw => ⟨he.cell hz7 hw.1, he.cell hzs hw.2⟩), ?_⟩
  refine AnyK.done (by kernel_rfl) (hK _ _ b hx ?_ ?_ ?_ ?_)
  · simp only [size_put, hsz]
  · simp only [defers_put]
  · exact (by simp [hsz])
  · intro e he
    iterate 9 refine (ev_ne (by omega)).trans ?_
    rfl
end Go.Proofs.Ytfcnombmphophaa

namespace Go.Proofs.Ytfcnombmphophaa
open Go.RowKit Go.Shelf
noncomputable def opsZ11 : Array Oper := (Try.f54.body.bind (regionOf 11)).getD #[]
section
attribute [local irreducible] AnyK StepK
abbrev KpZ (b2 b3 : Nat) (v s : Value) : Nat → World → World → Prop := fun j w w' => (w.cell? ⟨b3, 0, none⟩ = some s → w'.cell? ⟨b3, 0, none⟩ = some s) ∧ ((j == 7) = false → w.cell? ⟨b2, 0, none⟩ = some v → w'.cell? ⟨b2, 0, none⟩ = some v)
theorem mayZ {ops : Array Oper} {listed : Array Bool} {b2 b3 : Nat} {v s : Value} {i : Nat} {oi : Oper} (h1 : ops[i]? = some oi) (h2 : Region.noSelect ops = true) (h3 : (Region.ready .any ops listed).contains i = true) (h4 : looseB .any ops (fun _ => false) i oi = true) :
    May ops (KpZ b2 b3 v s) listed (fun _ => True) (fun _ => false) i oi := ⟨h1, h2, h3, h4, fun _ _ _ _ _ _ => trivial, fun _ => ⟨id, fun _ => id⟩⟩
set_option maxRecDepth 10000 in
set_option maxHeartbeats 2000000 in
theorem regionZ11 {F : Fence} {nF : Nat} (hF : WideF F Try.prog) {Q : Exit → Act → World → Prop} {a : Act} {w : World} {b2 b3 gd N cd n m base : Nat} {on : Int} {v : Value} {xs : List Value} {f : Nat → Int} (hsz : a.tmps.size = 56)
    (t5 : a.eval (.tmp 5) = .pointer (some ⟨b3, 0, none⟩)) (t4 : a.eval (.tmp 4) = .pointer (some ⟨b2, 0, none⟩)) (t8 : a.eval (.tmp 8) = .int .i64 n) (t10 : a.eval (.tmp 10) = .int .i64 on)
    (w2 : Whole w b2 25 #[v]) (w3 : Whole w b3 25 #[.slice (some ⟨gd, 0, none⟩) N cd]) (hr : Row w gd N f) (hn : n < N) (own : w.ownsRow base 3 1 v m xs) (hbase : base ≤ w.heap.size) (h2 : b2 < base) (h3 : b3 < base) (hg : gd < base) (h23 : b3 ≠ b2) (h2g : gd ≠ b2) (h3g : b3 ≠ gd) (hm : m < 1000)
    (hK : ∀ a' W' v', Whole W' b2 25 #[v'] → Row W' gd N (upd f n on) → W'.ownsRow base 3 1 v' (m + 1) (xs ++ [.int .i64 n]) → Else (fun k => k = b2 ∨ k = gd ∨ some k = v.ownBlock) w W' → a'.tmps.size = 56 → a'.defers = a.defers → (∀ e : Nat, e < 46 ∨ 54 ≤ e → a'.eval (.tmp e) = a.eval (.tmp e)) → Q .normal a' W') :
    (Code.region 11 opsZ11 true).wpIn F nF Try.prog Q a w := by
  have he : Else (fun k => k = b2 ∨ k = gd ∨ some k = v.ownBlock) w w.drew := (Else.refl _ _).drew
  have hlt := own.lt
  refine region_K (KpZ b2 b3 v (.slice (some ⟨gd, 0, none⟩) N cd)) hF (by kernel_rfl) Try.mixed ?_
  change AnyK _ _ _ _ 10 (Array.replicate 10 false) _ _
  replace w2 : Whole w.drew b2 25 #[v] := w2
  replace w3 : Whole w.drew b3 25 #[.slice (some ⟨gd, 0, none⟩) N cd] := w3
  replace hr : Row w.drew gd N f := hr
  replace own : w.drew.ownsRow base 3 1 v m xs := own
  replace hbase : base ≤ w.drew.heap.size := hbase
  generalize w.drew = W at *
  have c3 : W.cell? ⟨b3, 0, none⟩ = some (.slice (some ⟨gd, 0, none⟩) N cd) := w3.cell 0
  have c2 : W.cell? ⟨b2, 0, none⟩ = some v := w2.cell 0
  refine AnyK.load (i := 0) (p := ⟨b3, 0, none⟩) (v := .slice (some ⟨gd, 0, none⟩) N cd) (R := fun w => w.cell? ⟨b3, 0, none⟩ = some (.slice (some ⟨gd, 0, none⟩) N cd)) ⟨rfl, by kernel_rfl, by kernel_rfl, by kernel_rfl, fun _ _ _ _ hk hR => hk.1 hR, fun _ => ⟨id, fun _ => id⟩⟩ (T := fun _ => false) (by simp [t5]) (fun w hw => ld25 hw) c3 ?_
  refine AnyK.move (i := 1) (v := .int .i64 n) (mayZ rfl (by kernel_rfl) (by kernel_rfl) (by kernel_rfl)) (by simp [t8]) trivial ?_
  refine AnyK.load (i := 2) (p := ⟨b2, 0, none⟩) (v := v) (R := fun w => w.cell? ⟨b2, 0, none⟩ = some v) ⟨rfl, by kernel_rfl, by kernel_rfl, by kernel_rfl, fun _ _ _ hT hk hR => hk.2 hT hR, fun _ => ⟨id, fun _ => id⟩⟩ (T := fun j => j == 7) (by simp [t4]) (fun w hw => ld25 hw) c2 ?_
  refine AnyK.move (i := 3) (v := .int .i64 n) (mayZ rfl (by kernel_rfl) (by kernel_rfl) (by kernel_rfl)) (by simp [t8]) trivial ?_
  refine AnyK.move (i := 6) (v := .int .i64 on) (mayZ rfl (by kernel_rfl) (by kernel_rfl) (by kernel_rfl)) (by simp [t10]) trivial ?_
  refine AnyK.pick1 (i := 4) (by kernel_rfl) ?_
  refine StepK.build (i := 4) (ps := #[(0, .int .i64 n)]) rfl (by simp [hsz]) (bs25_1 _ _) ⟨fun hw => cell_alloc_l _ hw, fun _ hw => cell_alloc_l _ hw⟩ ?_
  have n4 := cell_new1 W (.int .i64 n) 3
  replace own := own.alloc (.cells #[.int .i64 n] 3)
  replace w2 := w2.alloc (.cells #[.int .i64 n] 3)
  replace w3 := w3.alloc (.cells #[.int .i64 n] 3)
  replace hr := hr.alloc (.cells #[.int .i64 n] 3)
  replace he := he.alloc (.cells #[.int .i64 n] 3)
  replace hbase : base ≤ (W.alloc (.cells #[.int .i64 n] 3)).heap.size := by simp; omega
  generalize W.heap.size = p4 at *
  generalize W.alloc (.cells #[.int .i64 n] 3) = W4 at *
  clear c2 c3 W
  refine AnyK.pick1 (i := 5) (by kernel_rfl) ?_
  refine StepK.append (i := 5) rfl own (by simp [hsz]) ⟨p4, 0, none⟩ 1 [.int .i64 n] (by simp [hsz]) rfl (news1 n4) (by simp [Value.oneCell']) (by unfold maxLen; omega) (by omega) hbase ?_
  intro g cap W5 hown hgr hat
  have hn2 : some b2 ≠ v.ownBlock := fun e => by have := (hlt b2 e.symm).1; omega
  have hn3 : some b3 ≠ v.ownBlock := fun e => by have := (hlt b3 e.symm).1; omega
  have hng : some gd ≠ v.ownBlock := fun e => by have := (hlt gd e.symm).1; omega
  have eg := Else.of_grown hgr
  refine ⟨⟨fun hw => eg.cell hn3 hw, fun _ hw => eg.cell hn2 hw⟩, ?_⟩
  replace w2 := eg.whole hn2 w2
  replace w3 := eg.whole hn3 w3
  replace hr := eg.row hng hr
  replace he := he.trans (eg.mono (fun k _ hk => .inr (.inr hk)))
  have hgb : base ≤ g := (hown.lt g rfl).1
  clear n4 own hgr hat hbase eg W4
  refine AnyK.pick1 (i := 7) (by kernel_rfl) ?_
  refine StepK.store (i := 7) (u := .pointer (some ⟨b2, 0, none⟩)) (u' := .slice (some ⟨g, 0, none⟩) (m + 1) cap) rfl (by simp [t4]) (by simp [hsz]) (st25 (w2.cell 0) (w2.frozen 0)) ⟨fun hw => (cell_set_far (by simpa using h23) _).trans hw, fun h => by cases h⟩ ?_
  have w2' : Whole (W5.setCell ⟨b2, 0, none⟩ (.slice (some ⟨g, 0, none⟩) (m + 1) cap)) b2 25 #[.slice (some ⟨g, 0, none⟩) (m + 1) cap] := w2.set 0 _
  have w3' : Whole (W5.setCell ⟨b2, 0, none⟩ (.slice (some ⟨g, 0, none⟩) (m + 1) cap)) b3 25 #[.slice (some ⟨gd, 0, none⟩) N cd] := w3.far (p := ⟨b2, 0, none⟩) h23 _
  have hr' := hr.far (p := ⟨b2, 0, none⟩) h2g (.slice (some ⟨g, 0, none⟩) (m + 1) cap)
  have own' := hown.kept (grown_set W5 ⟨b2, 0, none⟩ (.slice (some ⟨g, 0, none⟩) (m + 1) cap)) (.inr (by simp [Value.ownBlock]; omega))
  have he' := he.setCell (p := ⟨b2, 0, none⟩) (.inl (.inl rfl)) (.slice (some ⟨g, 0, none⟩) (m + 1) cap)
  generalize W5.setCell ⟨b2, 0, none⟩ (.slice (some ⟨g, 0, none⟩) (m + 1) cap) = W7 at *
  clear w2 w3 hr hown he W5
  refine AnyK.index (i := 8) (u := .slice (some ⟨gd, 0, none⟩) N cd) (u' := .int .i64 n) (v := .pointer (some ⟨gd, n, none⟩)) (mayZ rfl (by kernel_rfl) (by kernel_rfl) (by kernel_rfl)) (by simp [hsz]) (by simp [hsz]) (fun w => ix25 hn w) trivial ?_
  refine AnyK.pick1 (i := 9) (by kernel_rfl) ?_
  refine StepK.store (i := 9) (u := .pointer (some ⟨gd, n, none⟩)) (u' := .int .i64 on) rfl (by simp [hsz]) (by simp [hsz]) (st3 (hr' n hn).1 (hr' n hn).2) ⟨fun hw => (cell_set_far (by simpa using h3g) _).trans hw, fun _ hw => (cell_set_far (by simpa using (Ne.symm h2g)) _).trans hw⟩ ?_
  refine AnyK.done (by kernel_rfl) (hK _ _ (.slice (some ⟨g, 0, none⟩) (m + 1) cap) (w2'.far (p := ⟨gd, n, none⟩) (Ne.symm h2g) _) (hr'.set hn on) (own'.kept (grown_set W7 ⟨gd, n, none⟩ _) (.inr (by simp [Value.ownBlock]; omega))) (he'.setCell (p := ⟨gd, n, none⟩) (.inl (.inr (.inl rfl))) _) ?_ ?_ ?_)
  · simp only [size_put, hsz]
  · simp only [defers_put]
  · intro e he
    iterate 8 refine (ev_ne (by omega)).trans ?_
    rfl
end
end Go.Proofs.Ytfcnombmphophaa

namespace Go.Proofs.Ytfcnombmphophaa
open Go.RowKit Go.Shelf
noncomputable def opsZ0 : Array Oper := (Try.f54.body.bind (regionOf 0)).getD #[]
noncomputable def opsZ2 : Array Oper := (Try.f54.body.bind (regionOf 2)).getD #[]
noncomputable def opsZ3 : Array Oper := (Try.f54.body.bind (regionOf 3)).getD #[]
noncomputable def opsZ4 : Array Oper := (Try.f54.body.bind (regionOf 4)).getD #[]
noncomputable def opsZ5 : Array Oper := (Try.f54.body.bind (regionOf 5)).getD #[]
noncomputable def opsZ6 : Array Oper := (Try.f54.body.bind (regionOf 6)).getD #[]
noncomputable def opsZ7 : Array Oper := (Try.f54.body.bind (regionOf 7)).getD #[]
noncomputable def opsZ8 : Array Oper := (Try.f54.body.bind (regionOf 8)).getD #[]
noncomputable def opsZ9 : Array Oper := (Try.f54.body.bind (regionOf 9)).getD #[]
noncomputable def opsZ12 : Array Oper := (Try.f54.body.bind (regionOf 12)).getD #[]
noncomputable def opsZ13 : Array Oper := (Try.f54.body.bind (regionOf 13)).getD #[]
noncomputable def opsZ14 : Array Oper := (Try.f54.body.bind (regionOf 14)).getD #[]
noncomputable def assignZ : Code := .seq (.region 6 opsZ6 false) (.region 7 opsZ7 false)
noncomputable def bodyZ : Code := .block 1 (.seq (.region 8 opsZ8 false) (.seq (.seq (.region 9 opsZ9 false) (.cond (.tmp 36) (.exit 1) .skip)) (.seq (.region 10 opsZ10 true) (.cond (.tmp 45) (.seq (.region 11 opsZ11 true) (.seq (.region 12 opsZ12 false) .ret)) .skip))))
noncomputable def code54 : Code := .seq (.region 0 opsZ0 false) (.seq (.seq (.region 1 opsZ1 true) (.cond (.tmp 15) (.seq (.region 2 opsZ2 false) .ret) .skip)) (.seq (.seq (.region 3 opsZ3 false) (.cond (.tmp 18) (.seq (.region 4 opsZ4 false) .ret) .skip)) (.seq (.seq (.region 5 opsZ5 false) (.block 0 (.rangeFunc (.tmp 22) #[23, 24] assignZ bodyZ))) (.seq (.region 13 opsZ13 false) (.seq (.region 14 opsZ14 false) .ret)))))
theorem body54 : Try.f54.body = some code54 := by kernel_rfl

section
variable {P : Program} {ops : Array Oper} {K : Act → World → Prop} {k i d : Nat} {a : Act} {w w' : World} {ty : TypeId} {pos : String} {aft : Array Edge} {v : Value} {gd : Option (Nat × Bool)}
theorem ListK.bsl {P : Program} {t : TypeId} {n : Nat} {parts : Array (Nat × Operand)} {ps : Array (Nat × Value)} (hi : ops[i]? = some ⟨some d, .buildSlice t n parts, ty, pos, aft, gd⟩)
    (hp : parts.map (fun (i, x) => (i, a.eval x)) = ps) (hv : (Instr.buildSlice t n ps).run P w = .ok v w')
    (h : ListK P ops K k (i + 1) (a.put (some d) v) w') (hw : Region.wanted ⟨some d, .buildSlice t n parts, ty, pos, aft, gd⟩ (yielded ops a.tmps) = true := by rfl) : ListK P ops K (k + 1) i a w :=
  ListK.valW hi hw (by simp only [execOp, hp]; simp [hv]) h
theorem ListK.look {t : TypeId} {x y : Operand} {u u' : Value} (hi : ops[i]? = some ⟨some d, .lookup t x y false, ty, pos, aft, gd⟩) (hx : a.eval x = u) (hy : a.eval y = u') (hv : (Instr.lookup t u u' false).run P w = .ok v w')
    (h : ListK P ops K k (i + 1) (a.put (some d) v) w') (hw : Region.wanted ⟨some d, .lookup t x y false, ty, pos, aft, gd⟩ (yielded ops a.tmps) = true := by rfl) : ListK P ops K (k + 1) i a w := ListK.valW hi hw (by simp [execOp, hx, hy, hv]) h
theorem ListK.mapUp {t : TypeId} {x y z : Operand} {u u' u'' : Value} (hi : ops[i]? = some ⟨none, .mapUpdate t x y z, ty, pos, aft, gd⟩) (hx : a.eval x = u) (hy : a.eval y = u') (hz : a.eval z = u'') (hv : (Instr.mapUpdate t u u' u'').run P w = .ok () w')
    (h : ListK P ops K k (i + 1) a w') (hw : Region.wanted ⟨none, .mapUpdate t x y z, ty, pos, aft, gd⟩ (yielded ops a.tmps) = true := by rfl) : ListK P ops K (k + 1) i a w := ListK.skipW hi hw (by simp [execOp, hx, hy, hz, hv]) h
end
theorem bx96 (w : World) (d x : Int) : (Instr.box 96 (.agg #[.int .i64 d, .int .i64 x])).run Try.prog w = .ok (.pointer (some ⟨w.heap.size, 0, none⟩)) (w.alloc (.cells #[.int .i64 d, .int .i64 x] 96)) := by
  go_simp
theorem al4 (w : World) : (Instr.alloc 4 true (.tuple #[])).run Try.prog w = .ok (.pointer (some ⟨w.heap.size, 0, none⟩)) (w.alloc (.cells #[.bool false] 4)) := by
  go_simp
theorem ld96 {w : World} {b : Nat} {u v : Value} (h : w.cell? ⟨b, 0, none⟩ = some u ∧ w.cell? ⟨b, 1, none⟩ = some v) : (Instr.loadAt 96 (.pointer (some ⟨b, 0, none⟩))).run Try.prog w = .ok (.agg #[u, v]) w := by
  obtain ⟨h0, h1⟩ := h
  go_simp
theorem res4 {fn : Func} {k b : Nat} {W : World} {a : Act} {v : Value} (h : fn.results = #[.cell k 4]) (he : a.eval (.tmp k) = .pointer (some ⟨b, 0, none⟩)) (hc : W.cell? ⟨b, 0, none⟩ = some v) :
    (results fn a.tmps).run Try.prog W = .ok v W := by
  have he' : a.tmps[k]?.getD undef = .pointer (some ⟨b, 0, none⟩) := by simpa [Act.eval] using he
  simp only [results, h]
  simp [he']
  go_simp
theorem leaves_one {n : Nat} {fn : Func} {tmps : Array Value} {R : Ending → World → Prop} {D : Nat} {v : Value} {W : World} (h : W.heap[D]? = some (.deferred (some [])))
    (hv : (results fn tmps).run Try.prog (W.putObj D (.deferred none)) = .ok v (W.putObj D (.deferred none))) (hR : R (.returned v) (W.putObj D (.deferred none))) :
    LeavesInM Fence.wide n Try.prog fn tmps R [mark D] .returning W :=
  ⟨by simp, .inl ⟨D, _, rfl, run_takeDeferred h, ⟨v, hv, hR⟩⟩⟩
theorem else_put (W : World) (D : Nat) (o : Obj) : Else (fun k => k = D) W (W.putObj D o) := ⟨⟨rfl, rfl, rfl, by simp [World.putObj], fun k hk => by omega⟩, fun k _ hx => World.putObj_heap_other hx⟩
theorem KeepsFrom.of_else {B : Nat} {Z : Nat → Prop} {W W' : World} (h : Else Z W W') (hZ : ∀ k, B ≤ k → ¬ Z k) : KeepsFrom B W W' :=
  ⟨h.size, fun k o hB hk _ => (h.block k (Array.getElem?_eq_some_iff.1 hk).1 (hZ k hB)).trans hk⟩
theorem Else.grown {Z : Nat → Prop} {W0 W W' : World} {row : Option Nat} (h : Else Z W0 W) (hg : W.grownBy W' row) (hr : ∀ r, row = some r → W0.heap.size ≤ r) : Else Z W0 W' :=
  ⟨h.base.trans (Else.of_grown hg).base, fun k hk hx => (hg.block k (Nat.lt_of_lt_of_le hk h.size) (fun e => by have := hr k e.symm; omega)).trans (h.block k hk hx)⟩
theorem Else.step {X Z : Nat → Prop} {W W1 W2 : World} (h : Else X W W1) (he : Else Z W1 W2) (hz : ∀ k, k < W.heap.size → Z k → X k) : Else X W W2 :=
  ⟨h.base.trans he.base, fun k hk hx => (he.block k (Nat.lt_of_lt_of_le hk h.size) (fun h2 => hx (hz k hk h2))).trans (h.block k hk hx)⟩
theorem owns_grown {W W' : World} {b e s n : Nat} {v : Value} {xs : List Value} {row : Option Nat} (h : W.ownsRow b e s v n xs) (hg : W.grownBy W' row) (hr : ∀ r, row = some r → ∃ o : Obj, W.heap[r]? = some o ∧ o.isCells = false) : W'.ownsRow b e s v n xs := by
  refine h.kept hg ?_
  rcases h.2 with ⟨rfl, _⟩ | ⟨g, cap, cur, rfl, _, hc, _⟩
  · exact .inl rfl
  · refine .inr (fun e => ?_)
    obtain ⟨o, ho, hoc⟩ := hr g e.symm
    rw [hc] at ho
    cases ho
    cases hoc
theorem owns_else {Z : Nat → Prop} {W W' : World} {b e s n : Nat} {v : Value} {xs : List Value} (h : W.ownsRow b e s v n xs) (he : Else Z W W') (hz : ∀ k, v.ownBlock = some k → ¬ Z k) : W'.ownsRow b e s v n xs := by
  refine ⟨h.1, ?_⟩
  rcases h.2 with h1 | ⟨g, cap, cur, rfl, hb, hc, h3⟩
  · exact .inl h1
  · exact .inr ⟨g, cap, cur, rfl, hb, (he.block g (Array.getElem?_eq_some_iff.1 hc).1 (hz g rfl)).trans hc, h3⟩

abbrev capsZ (b2 b3 b5 b6 b7 : Nat) : Array Value := #[.pointer (some ⟨b5, 0, none⟩), .pointer (some ⟨b6, 0, none⟩), .pointer (some ⟨b7, 0, none⟩), .pointer (some ⟨b2, 0, none⟩), .pointer (some ⟨b3, 0, none⟩)]
/-- What the search may write. -/
abbrev XZ (b2 M gd : Nat) : Nat → Prop := fun k => k = b2 ∨ k = M ∨ k = gd

section
variable {H B kb ge gl ce cl b2 b3 b5 b6 b7 M gd cd : Nat} {o t : Int} {A : Option Addr} {l : List Sale} {c : Nat}
/-- The search has found a way. -/
structure Yes (H B kb ge gl ce cl b2 b3 b5 b6 b7 M gd cd : Nat) (o t : Int) (A : Option Addr) (l : List Sale) (c : Nat) (W : World) (base : Nat) (d : Nat) (x : Int) (f : Nat → Int) (ns : List Nat) (v : Value) (w' : World) : Prop where
  og : Og H B kb ge gl ce cl b2 b3 b5 b6 b7 M gd cd o t A l c w'
  el : Else (XZ b2 M gd) W w'
  ok : PathOk t l d x ns
  row : Row w' gd l.length (daysOf l x ns f)
  w2 : Whole w' b2 25 #[v]
  own : w'.ownsRow base 3 1 v ns.length (ns.reverse.map fun n => .int .i64 (n : Nat))
/-- It has found none so far. -/
structure Not (H B kb ge gl ce cl b2 b3 b5 b6 b7 M gd cd : Nat) (o t : Int) (A : Option Addr) (l : List Sale) (c : Nat) (W : World) (f : Nat → Int) (w' : World) : Prop where
  og : Og H B kb ge gl ce cl b2 b3 b5 b6 b7 M gd cd o t A l c w'
  el : Else (XZ b2 M gd) W w'
  row : Row w' gd l.length f
  w2 : Whole w' b2 25 #[.slice none 0 0]
/-- How the search from a state ends. -/
def FB (H B kb ge gl ce cl b2 b3 b5 b6 b7 M gd cd : Nat) (o t : Int) (A : Option Addr) (l : List Sale) (c : Nat) (W : World) (d : Nat) (x : Int) (f : Nat → Int) (b : Bool) (w' : World) : Prop :=
  (b = true ∧ ∃ ns v, Yes H B kb ge gl ce cl b2 b3 b5 b6 b7 M gd cd o t A l c W W.heap.size d x f ns v w') ∨ (b = false ∧ NoWay t l d x ∧ Not H B kb ge gl ce cl b2 b3 b5 b6 b7 M gd cd o t A l c W f w')

theorem Not.else {W W1 W2 : World} {f : Nat → Int} {Z : Nat → Prop} (h : Not H B kb ge gl ce cl b2 b3 b5 b6 b7 M gd cd o t A l c W f W1) (g : Geo H B kb ge gl b2 b3 b5 b6 b7 M gd) (he : Else Z W1 W2) (hz : ∀ k, k < W.heap.size → ¬ Z k) (hH : H ≤ W.heap.size) :
    Not H B kb ge gl ce cl b2 b3 b5 b6 b7 M gd cd o t A l c W f W2 :=
  ⟨h.og.keep' g he (fun k hk hzk => (hz k (by omega) hzk).elim), h.el.step he (fun k hk h2 => (hz k hk h2).elim), he.row (hz gd (Nat.lt_of_lt_of_le g.lt.2.2.2.2.2.2.2.2.1 hH)) h.row, he.whole (hz b2 (Nat.lt_of_lt_of_le g.lt.2.2.2.2.2.2.2.2.2.1 hH)) h.w2⟩
end
end Go.Proofs.Ytfcnombmphophaa

namespace Go.Proofs.Ytfcnombmphophaa
open Go.RowKit Go.Shelf
theorem next_seqK {n p q kb B d c : Nat} {o t : Int} {A : Option Addr} {l : List Sale} {W0 : World} {X : Nat → Prop} (hv : Valid o t l) (hd : d < 65536) (hX : ∀ b, X b → b < W0.heap.size) (hXk : ¬ X kb) (hXB : ∀ b, b < B → ¬ X b) (hXq : ¬ X q)
    (hp : W0.cell? ⟨p, 0, none⟩ = some (.pointer (some ⟨kb, 0, none⟩))) (hq : W0.cell? ⟨q, 0, none⟩ = some (.int .i64 d)) (hb : BatchAt W0 B kb o t A l c) (hB : B ≤ W0.heap.size) :
    SeqStopsK Fence.wide n Try.prog 72 #[.pointer (some ⟨p, 0, none⟩), .pointer (some ⟨q, 0, none⟩)] (encN (t := t) (l := l) (d := d)) (KeepsC X) (fun xs => xs = nxt t l d l.length) (fun pre => ∃ j, j ≤ l.length ∧ pre = nxt t l d j) l.length W0 := by
  intro ly J Jx W hW hJ hJx hY h0
  have hsz := hW.size
  refine (next1_in n ly p q kb B o t A l c d hv hd X J Jx W (fun b hb hx => by have := hX b hx; omega) hXk hXB hXq hJ hY
    ((hW.cell (p := ⟨p, 0, none⟩) (block_lt_of_cell hp)).trans hp) ((hW.cell (p := ⟨q, 0, none⟩) (block_lt_of_cell hq)).trans hq) (hb.below hW hB (block_lt_of_cell hb.c0)) (by omega) h0).mono ?_
  intro e W' h
  exact h
theorem mem_nxt {t : Int} {l : List Sale} {d k : Nat} (h : nextB t l d k = true) : ∃ y, y ∈ nxt t l d l.length ∧ y.1 = k := by
  have hk : k < l.length := by simp [nextB] at h; exact h.1
  have : k ∈ (nxt t l d l.length).map (·.1) := by
    rw [nxt_map]
    exact List.mem_filter.2 ⟨List.mem_range.2 hk, h⟩
  obtain ⟨y, hy, e⟩ := List.mem_map.1 this
  exact ⟨y, hy, e⟩

section
variable {H B kb ge gl ce cl b2 b3 b5 b6 b7 M gd cd : Nat} {o t : Int} {A : Option Addr} {l : List Sale} {c : Nat}
theorem Yes.grown {W W1 W2 : World} {base d : Nat} {x : Int} {f : Nat → Int} {ns : List Nat} {v : Value} {row : Option Nat} (h : Yes H B kb ge gl ce cl b2 b3 b5 b6 b7 M gd cd o t A l c W base d x f ns v W1) (g : Geo H B kb ge gl b2 b3 b5 b6 b7 M gd) (hH : H ≤ W.heap.size) (hg : W1.grownBy W2 row) (hr : ∀ r, row = some r → W.heap.size ≤ r ∧ ∃ o : Obj, W1.heap[r]? = some o ∧ o.isCells = false) :
    Yes H B kb ge gl ce cl b2 b3 b5 b6 b7 M gd cd o t A l c W base d x f ns v W2 := by
  have he := Else.of_grown hg
  have hz : ∀ k, k < W.heap.size → ¬ (some k = row) := fun k hk e => by have := (hr k e.symm).1; omega
  exact ⟨h.og.keep' g he (fun k hk hzk => (hz k (by omega) hzk).elim), h.el.step he (fun k hk h2 => (hz k hk h2).elim), h.ok, he.row (hz gd (Nat.lt_of_lt_of_le g.lt.2.2.2.2.2.2.2.2.1 hH)) h.row, he.whole (hz b2 (Nat.lt_of_lt_of_le g.lt.2.2.2.2.2.2.2.2.2.1 hH)) h.w2, owns_grown h.own hg (fun r e => (hr r e).2)⟩

/-- The frame of a round. -/
structure FrZ (a : Act) (b2 b3 b7 bs br : Nat) : Prop where
  sz : a.tmps.size = 56
  t3 : a.eval (.tmp 3) = .pointer (some ⟨b7, 0, none⟩)
  t4 : a.eval (.tmp 4) = .pointer (some ⟨b2, 0, none⟩)
  t5 : a.eval (.tmp 5) = .pointer (some ⟨b3, 0, none⟩)
  t6 : a.eval (.tmp 6) = .pointer (some ⟨bs, 0, none⟩)
  t7 : a.eval (.tmp 7) = .pointer (some ⟨br, 0, none⟩)
/-- What holds between two rounds. -/
structure IZ (H B kb ge gl ce cl b2 b3 b5 b6 b7 M gd cd : Nat) (o t : Int) (A : Option Addr) (l : List Sale) (c : Nat) (W0 : World) (d : Nat) (x : Int) (f : Nat → Int) (bs br : Nat) (pre : List (Nx t l d)) (W : World) : Prop where
  nt : Not H B kb ge gl ce cl b2 b3 b5 b6 b7 M gd cd o t A l c W0 f W
  ws : Whole W bs 96 #[.int .i64 d, .int .i64 x]
  wr : Whole W br 4 #[.bool false]
  no : ∀ y, y ∈ pre → ¬ ∃ ns, PathOk t l d x (y.1 :: ns)
theorem IZ.else {W0 W W' : World} {d : Nat} {x : Int} {f : Nat → Int} {bs br : Nat} {pre : List (Nx t l d)} {Z : Nat → Prop} (h : IZ H B kb ge gl ce cl b2 b3 b5 b6 b7 M gd cd o t A l c W0 d x f bs br pre W) (g : Geo H B kb ge gl b2 b3 b5 b6 b7 M gd) (hH : H ≤ W0.heap.size) (he : Else Z W W') (hz : ∀ k, k < W0.heap.size → ¬ Z k) (h1 : ¬ Z bs) (h2 : ¬ Z br) :
    IZ H B kb ge gl ce cl b2 b3 b5 b6 b7 M gd cd o t A l c W0 d x f bs br pre W' :=
  ⟨h.nt.else g he hz hH, he.whole h1 h.ws, he.whole h2 h.wr, h.no⟩
theorem IZ.below {W0 W W' : World} {d : Nat} {x : Int} {f : Nat → Int} {bs br : Nat} {pre : List (Nx t l d)} (h : IZ H B kb ge gl ce cl b2 b3 b5 b6 b7 M gd cd o t A l c W0 d x f bs br pre W) (g : Geo H B kb ge gl b2 b3 b5 b6 b7 M gd) (hH : H ≤ W0.heap.size) (hb : Below W.heap.size W W') :
    IZ H B kb ge gl ce cl b2 b3 b5 b6 b7 M gd cd o t A l c W0 d x f bs br pre W' :=
  h.else g hH (Else.of_below (fun _ => False) hb) (fun _ _ h => h) (fun h => h) (fun h => h)

set_option maxRecDepth 10000 in
set_option maxHeartbeats 2000000 in
theorem rangeZ {Q : Exit → Act → World → Prop} {a : Act} {W0 W : World} {d : Nat} {x : Int} {f : Nat → Int} {bs br p q : Nat} (hv : Valid o t l) (g : Geo H B kb ge gl b2 b3 b5 b6 b7 M gd)
    (IH : ∀ (d' : Nat) (x' : Int) (f' : Nat → Int) (W' : World), d < d' → d' < 2 ^ l.length → Og H B kb ge gl ce cl b2 b3 b5 b6 b7 M gd cd o t A l c W' → Row W' gd l.length f' → Whole W' b2 25 #[.slice none 0 0] →
      Calls Try.prog 54 (#[stV d' x'] ++ capsZ b2 b3 b5 b6 b7) W' (fun e w' => ∃ b, e = .returned (.bool b) ∧ FB H B kb ge gl ce cl b2 b3 b5 b6 b7 M gd cd o t A l c W' d' x' f' b w'))
    (hd : d < 2 ^ l.length) (hH : H ≤ W0.heap.size) (hi : IZ H B kb ge gl ce cl b2 b3 b5 b6 b7 M gd cd o t A l c W0 d x f bs br [] W) (hfs : W0.heap.size ≤ bs) (hfr : W0.heap.size ≤ br) (hsr : bs ≠ br)
    (fr : FrZ a b2 b3 b7 bs br) (t22 : a.eval (.tmp 22) = .func (.func 72) #[] #[.pointer (some ⟨p, 0, none⟩), .pointer (some ⟨q, 0, none⟩)])
    (hp : W.cell? ⟨p, 0, none⟩ = some (.pointer (some ⟨kb, 0, none⟩))) (hq : W.cell? ⟨q, 0, none⟩ = some (.int .i64 d)) (hqH : W0.heap.size ≤ q)
    (hdone : ∀ D W', W.heap.size ≤ D → IZ H B kb ge gl ce cl b2 b3 b5 b6 b7 M gd cd o t A l c W0 d x f bs br (nxt t l d l.length) W' → W'.heap[D]? = some (.deferred (some [])) → Q .normal { a with defers := mark D :: a.defers } W')
    (hret : ∀ D W' ns v, W.heap.size ≤ D → Yes H B kb ge gl ce cl b2 b3 b5 b6 b7 M gd cd o t A l c W0 W0.heap.size d x f ns v W' → Whole W' br 4 #[.bool true] → W'.heap[D]? = some (.deferred (some [])) → Q .ret { a with defers := mark D :: a.defers } W') :
    (Code.rangeFunc (.tmp 22) #[23, 24] assignZ bodyZ).wpIn Fence.wide 5 Try.prog Q a W := by
  have hd6 := lt_65536 hv.len hd
  have hl8 := hv.len
  have hsz := fr.sz
  have hW0 : W0.heap.size ≤ W.heap.size := hi.nt.el.size
  have hXlt : ∀ k, XZ b2 M gd k → k < H := by
    obtain ⟨_, _, _, _, _, _, _, h8, h9, h10, _⟩ := g.lt
    rintro k (rfl | rfl | rfl) <;> assumption
  refine wpIn_rangeFunc_ownH (α := Nx t l d) rfl (by omega) (gf := 72) (lb := #[.pointer (some ⟨p, 0, none⟩), .pointer (some ⟨q, 0, none⟩)]) t22 trivial (enters_of Try.func72 (by kernel_rfl) rfl)
    (next_seqK (kb := kb) (B := B) (c := c) (A := A) (X := XZ b2 M gd) hv hd6 (fun b hb => by have := hXlt b hb; omega) ?nk ?nB (fun hx => by have := hXlt q hx; omega) hp hq hi.nt.og.bk.ba hi.nt.og.bk.le)
    (fun h1 h2 => h1.trans h2) (fun W l o o' _ h1 h2 _ => KeepsC.putObj W l o o' h1 h2) (Below.refl _ _) (fun _ => rfl)
    (IZ H B kb ge gl ce cl b2 b3 b5 b6 b7 M gd cd o t A l c W0 d x f bs br) (fun c0 _ W' => c0 = .ret ∧ (∃ ns v, Yes H B kb ge gl ce cl b2 b3 b5 b6 b7 M gd cd o t A l c W0 W0.heap.size d x f ns v W') ∧ Whole W' br 4 #[.bool true]) ?own ?ownx hi
    (fun y a' W' => ∃ bx, FrZ a' b2 b3 b7 bs br ∧ a'.eval (.tmp 8) = .int .i64 (y.1 : Nat) ∧ a'.eval (.tmp 9) = .pointer (some ⟨bx, 0, none⟩) ∧ Whole W' bx 61 (saleC (saleOf l y.1))) ?ownA ?assign ?body ?done ?stop
  case nk =>
    obtain ⟨p1, _⟩ := g.n2
    obtain ⟨q1, _⟩ := g.nM
    obtain ⟨r1, _⟩ := g.ng
    rintro (e | e | e) <;> contradiction
  case nB =>
    obtain ⟨a1, a2, a3⟩ := g.lo
    rintro b hb (e | e | e) <;> omega
  case own =>
    intro s X Y row hs hg hr
    have hz : ∀ k, W.heap.size ≤ k ∨ k < W0.heap.size ∨ True → True := fun _ _ => trivial
    exact ⟨hs.nt.else g (Else.of_grown hg) (fun k hk e => by have := (hr k e.symm).1; omega) hH, hs.ws.own hg (fun r e => (hr r e).2), hs.wr.own hg (fun r e => (hr r e).2), hs.no⟩
  case ownx =>
    rintro c0 s X Y row ⟨h0, ⟨ns, v, h1⟩, h2⟩ hg hr
    exact ⟨h0, ⟨ns, v, h1.grown g hH hg (fun r e => ⟨by have := (hr r e).1; omega, (hr r e).2⟩)⟩, h2.own hg (fun r e => (hr r e).2)⟩
  case ownA =>
    rintro y a' _ X Y row ⟨bx, h1, h2, h3, h4⟩ hg hr
    exact ⟨bx, h1, h2, h3, h4.own hg (fun r e => (hr r e).2)⟩
  case assign =>
    intro ly pre y W1 K hi1 hK
    rw [fold2]
    have e62 : ∀ e : Nat, e ≠ 23 → e ≠ 24 → (Act.mk ((a.tmps.setIfInBounds 23 (.int .i64 (y.1 : Nat))).setIfInBounds 24 (saleV (saleOf l y.1))) []).eval (.tmp e) = a.eval (.tmp e) := by
      intro e h1 h2
      have : Act.mk ((a.tmps.setIfInBounds 23 (.int .i64 (y.1 : Nat))).setIfInBounds 24 (saleV (saleOf l y.1))) [] = ((Act.mk a.tmps []).put (some 23) (.int .i64 (y.1 : Nat))).put (some 24) (saleV (saleOf l y.1)) := rfl
      rw [this, ev_ne h2, ev_ne h1]
      rfl
    have hz : (Act.mk ((a.tmps.setIfInBounds 23 (.int .i64 (y.1 : Nat))).setIfInBounds 24 (saleV (saleOf l y.1))) []).tmps.size = 56 := by simp [hsz]
    have u23 : (Act.mk ((a.tmps.setIfInBounds 23 (.int .i64 (y.1 : Nat))).setIfInBounds 24 (saleV (saleOf l y.1))) []).eval (.tmp 23) = .int .i64 (y.1 : Nat) := by simp [Act.eval, hsz]
    have u24 : (Act.mk ((a.tmps.setIfInBounds 23 (.int .i64 (y.1 : Nat))).setIfInBounds 24 (saleV (saleOf l y.1))) []).eval (.tmp 24) = saleV (saleOf l y.1) := by simp [Act.eval, hsz]
    have u3 := (e62 3 (by omega) (by omega)).trans fr.t3
    have u4 := (e62 4 (by omega) (by omega)).trans fr.t4
    have u5 := (e62 5 (by omega) (by omega)).trans fr.t5
    have u6 := (e62 6 (by omega) (by omega)).trans fr.t6
    have u7 := (e62 7 (by omega) (by omega)).trans fr.t7
    generalize Act.mk ((a.tmps.setIfInBounds 23 (.int .i64 (y.1 : Nat))).setIfInBounds 24 (saleV (saleOf l y.1))) [] = b at *
    refine wpIn_seq (region_l 1 (wideF_round _ _) (by kernel_rfl) (by kernel_rfl) ?_)
    intro KK hKK
    refine ListK.assign (i := 0) (v := .int .i64 (y.1 : Nat)) rfl (by simp [u23]) ?_
    refine ListK.done (hKK _ _ ?_)
    clear hKK KK
    refine region_l 2 (wideF_round _ _) (by kernel_rfl) (by kernel_rfl) ?_
    intro KK hKK
    refine ListK.alloc (i := 0) rfl (al61 W1) ?_
    refine ListK.store (i := 1) (u := .pointer (some ⟨W1.heap.size, 0, none⟩)) (u' := saleV (saleOf l y.1)) rfl (by simp [hz]) (by simp [u24]) (sa61 W1 _ _ _ _ _) ?_
    refine ListK.done (hKK _ _ ?_)
    clear hKK KK
    exact hK _ _ ((KeepsOthers.alloc _ _).from _) (KeepsC.of_below ((Below.refl _ _).alloc (Nat.le_refl _) _)) (hi1.below g hH ((Below.refl _ _).alloc (Nat.le_refl _) _))
      ⟨W1.heap.size, ⟨by simp only [size_put, hz], (by simp [u3]), (by simp [u4]), (by simp [u5]), (by simp [u6]), (by simp [u7])⟩, (by simp [hz]), (by simp [hz]), Whole.new W1 61 _⟩
  case body =>
    rintro ly pre y a' W1 _ _ hi1 ⟨bx, fr1, u8, u9, hx⟩ _
    have hz := fr1.sz
    have hyl := y.lt
    have hto := or_lt hd hyl
    have hgt := or_gt y.not
    have hk16 : y.1 < 16 := by omega
    have hlt1 := hi1.nt.el.size
    obtain ⟨s, hs⟩ : ∃ s, saleOf l y.1 = s := ⟨_, rfl⟩
    rw [hs] at hx
    unfold bodyZ
    refine wpIn_block ?_
    refine wpIn_seq (region_l 8 (wideF_round _ _) (by kernel_rfl) (by kernel_rfl) ?_)
    intro KK hKK
    refine ListK.field (i := 0) (u := .pointer (some ⟨bs, 0, none⟩)) (v := .pointer (some ⟨bs, 1, none⟩)) rfl (by simp [fr1.t6]) (fa96_1 _) ?_
    refine ListK.load (i := 1) (p := ⟨bs, 1, none⟩) (v := .int .i64 x) rfl (by simp [hz]) (ld3 (hi1.ws.cell 1)) ?_
    refine ListK.field (i := 2) (u := .pointer (some ⟨bx, 0, none⟩)) (v := .pointer (some ⟨bx, 3, none⟩)) rfl (by simp [u9]) (fa61_3 _) ?_
    refine ListK.field (i := 3) (u := .pointer (some ⟨bx, 3, none⟩)) (v := .pointer (some ⟨bx, 3, none⟩)) rfl (by simp [hz]) (fa46_0 _) ?_
    refine ListK.load (i := 4) (p := ⟨bx, 3, none⟩) (v := .int .i64 s.lo) rfl (by simp [hz]) (ld3 (hx.cell 3)) ?_
    refine ListK.bsl (i := 5) (ps := #[(0, .int .i64 x), (1, .int .i64 s.lo)]) (v := .slice (some ⟨W1.heap.size, 0, none⟩) 2 2) rfl (by simp [hz]) (bs25_2 _ _ W1) ?_
    refine ListK.call (i := 6) (vs := #[.slice (some ⟨W1.heap.size, 0, none⟩) 2 2]) rfl (enters_of Try.func57 (by kernel_rfl) rfl) (by simp [hz]) (((greatest_two W1.heap.size 0 2 x s.lo _ (cell_new2 W1 (.int .i64 x) (.int .i64 s.lo) 3).1 (cell_new2 W1 (.int .i64 x) (.int .i64 s.lo) 3).2)).mono ?_)
    rintro _ _ ⟨rfl, rfl⟩
    refine ⟨_, rfl, ?_⟩
    refine ListK.assign (i := 7) (v := .int .i64 (max x s.lo)) rfl (by simp [hz]) ?_
    refine ListK.done (hKK _ _ ?_)
    clear hKK KK
    have hB2 : Below W1.heap.size W1 (W1.alloc (.cells #[.int .i64 x, .int .i64 s.lo] 3)) := (Below.refl _ _).alloc (Nat.le_refl _) _
    have hi2 := hi1.below g hH hB2
    have hx2 := hx.alloc (.cells #[.int .i64 x, .int .i64 s.lo] 3)
    generalize W1.alloc (.cells #[.int .i64 x, .int .i64 s.lo] 3) = W2 at *
    generalize hA : Act.put _ _ _ = a2
    have hz_a2 : a2.tmps.size = 56 := by rw [← hA]; simp only [size_put, hz]
    have u3 : a2.eval (.tmp 3) = .pointer (some ⟨b7, 0, none⟩) := by rw [← hA]; exact (by simp [fr1.t3])
    have u4 : a2.eval (.tmp 4) = .pointer (some ⟨b2, 0, none⟩) := by rw [← hA]; exact (by simp [fr1.t4])
    have u5 : a2.eval (.tmp 5) = .pointer (some ⟨b3, 0, none⟩) := by rw [← hA]; exact (by simp [fr1.t5])
    have u6 : a2.eval (.tmp 6) = .pointer (some ⟨bs, 0, none⟩) := by rw [← hA]; exact (by simp [fr1.t6])
    have u7 : a2.eval (.tmp 7) = .pointer (some ⟨br, 0, none⟩) := by rw [← hA]; exact (by simp [fr1.t7])
    have u8 : a2.eval (.tmp 8) = .int .i64 (y.1 : Nat) := by rw [← hA]; exact (by simp [u8])
    have u9 : a2.eval (.tmp 9) = .pointer (some ⟨bx, 0, none⟩) := by rw [← hA]; exact (by simp [u9])
    have u10 : a2.eval (.tmp 10) = .int .i64 (max x s.lo) := by rw [← hA]; exact (by simp [hz])
    clear hA
    refine wpIn_seq (wpIn_seq (region_l 5 (wideF_round _ _) (by kernel_rfl) (by kernel_rfl) ?_))
    intro KK hKK
    refine ListK.move (i := 0) (v := .int .i64 (max x s.lo)) rfl (by simp [u10]) ?_
    refine ListK.field (i := 1) (u := .pointer (some ⟨bx, 0, none⟩)) (v := .pointer (some ⟨bx, 3, none⟩)) rfl (by simp [u9]) (fa61_3 _) ?_
    refine ListK.field (i := 2) (u := .pointer (some ⟨bx, 3, none⟩)) (v := .pointer (some ⟨bx, 4, none⟩)) rfl (by simp [hz_a2]) (fa46_1 _) ?_
    refine ListK.load (i := 3) (p := ⟨bx, 4, none⟩) (v := .int .i64 s.hi) rfl (by simp [hz_a2]) (ld3 (hx2.cell 4)) ?_
    refine ListK.bin (i := 4) (u := .int .i64 (max x s.lo)) (u' := .int .i64 s.hi) (v := .bool (decide (s.hi < (max x s.lo)))) rfl (by simp [hz_a2]) (by simp [hz_a2]) (gtr3 _) ?_
    refine ListK.done (hKK _ _ ?_)
    clear hKK KK
    by_cases hle : max x s.lo ≤ s.hi
    · refine wpIn_cond (t := false) (by simp [hz_a2]; omega) (wpIn_skip ?_)
      generalize hA : Act.put _ _ _ = a3
      have hz_a3 : a3.tmps.size = 56 := by rw [← hA]; simp only [size_put, hz_a2]
      have v3 : a3.eval (.tmp 3) = .pointer (some ⟨b7, 0, none⟩) := by rw [← hA]; exact (by simp [u3])
      have v4 : a3.eval (.tmp 4) = .pointer (some ⟨b2, 0, none⟩) := by rw [← hA]; exact (by simp [u4])
      have v5 : a3.eval (.tmp 5) = .pointer (some ⟨b3, 0, none⟩) := by rw [← hA]; exact (by simp [u5])
      have v6 : a3.eval (.tmp 6) = .pointer (some ⟨bs, 0, none⟩) := by rw [← hA]; exact (by simp [u6])
      have v7 : a3.eval (.tmp 7) = .pointer (some ⟨br, 0, none⟩) := by rw [← hA]; exact (by simp [u7])
      have v8 : a3.eval (.tmp 8) = .int .i64 (y.1 : Nat) := by rw [← hA]; exact (by simp [u8])
      have v9 : a3.eval (.tmp 9) = .pointer (some ⟨bx, 0, none⟩) := by rw [← hA]; exact (by simp [u9])
      have v10 : a3.eval (.tmp 10) = .int .i64 (max x s.lo) := by rw [← hA]; exact (by simp [u10])
      clear hA
      have e2 : Else (XZ b2 M gd) W1 W2 := Else.of_below _ hB2
      have hXn : ∀ k, W0.heap.size ≤ k → ¬ XZ b2 M gd k := fun k hk hx => by have := hXlt k hx; omega
      have n7 : ¬ XZ b2 M gd b7 := by
        rintro (e | e | e)
        · exact g.n2.2.2.2.2.2.1 e
        · exact g.nM.2.2.2.2.2.1 e
        · exact g.ng.2.2.2.2.2.1 e
      show (Code.seq _ _).wpIn _ _ _ _ _ _
      refine wpIn_seq (regionZ10 (d := d) (n := y.1) (on := max x s.lo) (Z := XZ b2 M gd) (X := fun b W' => ∃ W3, Below W2.heap.size W2 W3 ∧ FB H B kb ge gl ce cl b2 b3 b5 b6 b7 M gd cd o t A l c W3 (d ||| 2 ^ y.1) (max x s.lo) f b W') (wideF_round _ _) hz_a3 v3 v6 v8 v10 (hi2.nt.og.c7.cell 0) (hi2.ws.cell 0) hd6 hk16 ?_ n7 (hXn bs hfs) ?_)
      · intro W3 hb3
        have hi3 := hi2.below g hH hb3
        refine (IH _ (max x s.lo) f W3 hgt hto hi3.nt.og hi3.nt.row hi3.nt.w2).mono ?_
        rintro e w' ⟨b, rfl, hf⟩
        refine ⟨b, rfl, ⟨W3, hb3, hf⟩, ?_⟩
        rcases hf with ⟨-, ns, v, hy⟩ | ⟨-, -, hn⟩
        · exact hy.el
        · exact hn.el
      rintro a4 W4 b ⟨W3, hb3, hf⟩ hz4 hd4 w45 he4
      have hi3 := hi2.below g hH hb3
      have e3 : Else (XZ b2 M gd) W1 W3 := e2.trans (Else.of_below _ hb3)
      rcases hf with ⟨rfl, ns, v, hy⟩ | ⟨rfl, hno, hn⟩
      · refine wpIn_cond (t := true) w45 ?_
        have e4 : Else (XZ b2 M gd) W1 W4 := e3.trans hy.el
        have hs3 : W1.heap.size ≤ W3.heap.size := e3.size
        have hs4 : W3.heap.size ≤ W4.heap.size := hy.el.size
        have hl4 := PathOk.len ns _ _ hto hy.ok
        have hp8 := pow_le hl8
        refine wpIn_seq (regionZ11 (b2 := b2) (b3 := b3) (gd := gd) (N := l.length) (cd := cd) (n := y.1) (m := ns.length) (base := W3.heap.size) (on := max x s.lo) (v := v) (f := daysOf l (max x s.lo) ns f) (wideF_round _ _) hz4 ((he4 5 (by omega)).trans v5) ((he4 4 (by omega)).trans v4) ((he4 8 (by omega)).trans v8) ((he4 10 (by omega)).trans v10) hy.w2 hy.og.c3 hy.row hyl hy.own hs4 (by have := hXlt b2 (.inl rfl); omega) (by have := g.lt.2.2.2.2.2.2.1; omega) (by have := hXlt gd (.inr (.inr rfl)); omega) g.n2.2.2.2.2.2.2.1 g.n2.2.2.2.2.2.2.2.2 g.ng.2.2.2.2.2.2 (by omega) ?_)
        intro a5 W5 v' hw2 hrow hown el5 hz5 hd5 he5
        have e5 : Else (XZ b2 M gd) W1 W5 := e4.step el5 (fun k hk h => by
          rcases h with h | h | h
          · exact .inl h
          · exact .inr (.inr h)
          · have := (hy.own.lt k h.symm).1
            omega)
        have n5 : ∀ k, k < W3.heap.size → k ≠ b2 → k ≠ gd → ¬ (k = b2 ∨ k = gd ∨ some k = v.ownBlock) := fun k h1 h2 h3 h => by
          rcases h with h | h | h
          · exact h2 h
          · exact h3 h
          · have := (hy.own.lt k h.symm).1
            omega
        have hbr : Whole W5 br 4 #[.bool false] := by
          have h4 : Whole W4 br 4 #[.bool false] := hy.el.whole (hXn br hfr) hi3.wr
          exact el5.whole (n5 br hi3.wr.lt (fun e => hXn br hfr (.inl e)) (fun e => hXn br hfr (.inr (.inr e)))) h4
        have hog : Og H B kb ge gl ce cl b2 b3 b5 b6 b7 M gd cd o t A l c W5 := hy.og.keep' g el5 (fun k hk h => by
          rcases h with h | h | h
          · exact .inl h
          · exact .inr h
          · have := (hy.own.lt k h.symm).1
            omega)
        have w7 : a5.eval (.tmp 7) = .pointer (some ⟨br, 0, none⟩) := (he5 7 (by omega)).trans ((he4 7 (by omega)).trans v7)
        refine wpIn_seq (region_l 1 (wideF_round _ _) (by kernel_rfl) (by kernel_rfl) ?_)
        intro KK hKK
        refine ListK.store (i := 0) (u := .pointer (some ⟨br, 0, none⟩)) (u' := .bool true) rfl (by simp [w7]) (by simp) (st4 (hbr.cell 0) (hbr.frozen 0)) ?_
        refine ListK.done (hKK _ _ (wpIn_ret ?_))
        have hbr2 := hbr.set 0 (.bool true)
        have e6 : Else (fun k => k = br) W5 (W5.setCell ⟨br, 0, none⟩ (.bool true)) := (Else.refl (fun k => k = br) W5).setCell (p := ⟨br, 0, none⟩) (.inl rfl) _
        have nb : ∀ k, XZ b2 M gd k → k ≠ br := fun k hk e => by have := hXlt k hk; omega
        have hy6 : Yes H B kb ge gl ce cl b2 b3 b5 b6 b7 M gd cd o t A l c W0 W0.heap.size d x f (y.1 :: ns) v' (W5.setCell ⟨br, 0, none⟩ (.bool true)) := by
          refine ⟨hog.keep' g e6 (fun k hk h => by have : k = br := h; omega), ((hi1.nt.el.trans e5).step e6 (fun k hk h => by have : k = br := h; omega)), ⟨y.2, by rw [hs]; exact hle, by rw [hs]; exact hy.ok⟩, ?_, e6.whole (nb b2 (.inl rfl)) hw2, ?_⟩
          · have := e6.row (nb gd (.inr (.inr rfl))) hrow
            simp only [daysOf, hs]
            exact this
          · have h1 := owns_else hown e6 (fun k hk h => by
              have h2 := (hown.lt k hk).1
              have h3 := hi3.wr.lt
              have : k = br := h
              omega)
            have h2 := ownsRow_base h1 (show W0.heap.size ≤ W3.heap.size by omega)
            simpa using h2
        show KeepsFrom W.heap.size W1 _ ∧ _
        exact ⟨(KeepsFrom.of_else e5 (fun k hk => hXn k (by omega))).trans ((KeepsOthers.setCell _ _ _).from _), rfl, ⟨_, _, hy6⟩, hbr2⟩
      · refine wpIn_cond (t := false) w45 (wpIn_skip ?_)
        have e4 : Else (XZ b2 M gd) W1 W4 := e3.trans hn.el
        show KeepsFrom W.heap.size W1 W4 ∧ KeepsC (XZ b2 M gd) W1 W4 ∧ _
        refine ⟨KeepsFrom.of_else e4 (fun k hk => hXn k (by omega)), KeepsC.of_else e4, ⟨⟨hn.og, hi1.nt.el.trans e4, hn.row, hn.w2⟩, hn.el.whole (hXn bs hfs) hi3.ws, hn.el.whole (hXn br hfr) hi3.wr, ?_⟩⟩
        intro z hzm
        rcases List.mem_append.1 hzm with hzm | hzm
        · exact hi1.no z hzm
        · obtain rfl : z = y := by simpa using hzm
          rintro ⟨ns, _, _, h3⟩
          rw [hs] at h3
          exact hno ⟨ns, h3⟩
    · refine wpIn_cond (t := true) (by simp [hz_a2]; omega) (wpIn_exit ?_)
      show KeepsFrom W.heap.size W1 W2 ∧ KeepsC (XZ b2 M gd) W1 W2 ∧ _
      have e2 : Else (fun _ => False) W1 W2 := Else.of_below _ hB2
      refine ⟨KeepsFrom.of_else e2 (fun _ _ h => h), KeepsC.of_below hB2, ⟨hi2.nt, hi2.ws, hi2.wr, ?_⟩⟩
      intro z hzm
      rcases List.mem_append.1 hzm with hzm | hzm
      · exact hi1.no z hzm
      · obtain rfl : z = y := by simpa using hzm
        rintro ⟨ns, _, h2, _⟩
        rw [hs] at h2
        exact hle h2
  case done =>
    rintro D xs W' hD rfl hi1 hK
    exact hdone D W' hD hi1 hK
  case stop =>
    rintro D c0 pre W' hD _ ⟨rfl, ⟨ns, v, h1⟩, h2⟩ hK
    exact wpIn_ret (hret D W' ns v hD h1 h2 hK)
end
end Go.Proofs.Ytfcnombmphophaa

namespace Go.Proofs.Ytfcnombmphophaa
open Go.RowKit Go.Shelf
section
variable {H B kb ge gl ce cl b2 b3 b5 b6 b7 M gd cd : Nat} {o t : Int} {A : Option Addr} {l : List Sale} {c : Nat}
abbrev FP (H B kb ge gl ce cl b2 b3 b5 b6 b7 M gd cd : Nat) (o t : Int) (A : Option Addr) (l : List Sale) (c : Nat) (W : World) (d : Nat) (x : Int) (f : Nat → Int) : Ending → World → Prop :=
  fun e w' => ∃ b, e = .returned (.bool b) ∧ FB H B kb ge gl ce cl b2 b3 b5 b6 b7 M gd cd o t A l c W d x f b w'
set_option maxRecDepth 10000 in
set_option maxHeartbeats 2000000 in
theorem from_any (hv : Valid o t l) (g : Geo H B kb ge gl b2 b3 b5 b6 b7 M gd) : ∀ (m d : Nat) (x : Int) (f : Nat → Int) (W : World), 2 ^ l.length - d ≤ m → d < 2 ^ l.length → Og H B kb ge gl ce cl b2 b3 b5 b6 b7 M gd cd o t A l c W → Row W gd l.length f → Whole W b2 25 #[.slice none 0 0] →
    Calls Try.prog 54 (#[stV d x] ++ capsZ b2 b3 b5 b6 b7) W (FP H B kb ge gl ce cl b2 b3 b5 b6 b7 M gd cd o t A l c W d x f) := by
  intro m
  induction m with
  | zero => intro d x f W hm hd; omega
  | succ m ih =>
  intro d x f W hm hd hog hrow hw2
  have hl8 := hv.len
  have hH := hog.hH
  have hXlt : ∀ k, XZ b2 M gd k → k < H := by
    obtain ⟨_, _, _, _, _, _, _, h8, h9, h10, _⟩ := g.lt
    rintro k (rfl | rfl | rfl) <;> assumption
  refine (callsIn_wide (n := 5)).1 (callsIn_of_wp_marks Try.func54 body54 trivial ?_ rfl)
  obtain ⟨a, ha⟩ : ∃ a : Act, a = { tmps := (#[stV d x] ++ capsZ b2 b3 b5 b6 b7) ++ Array.replicate (Try.f54.ntmps - ((#[stV d x] ++ capsZ b2 b3 b5 b6 b7) : Array Value).size) undef, defers := [] } := ⟨_, rfl⟩
  have hsz : a.tmps.size = 56 := by rw [ha]; simp [Try.ntmps54]
  have t0 : a.eval (.tmp 0) = stV d x := by rw [ha]; simp [Act.eval]
  have t1 : a.eval (.tmp 1) = .pointer (some ⟨b5, 0, none⟩) := by rw [ha]; simp [Act.eval]
  have t2 : a.eval (.tmp 2) = .pointer (some ⟨b6, 0, none⟩) := by rw [ha]; simp [Act.eval]
  have t3 : a.eval (.tmp 3) = .pointer (some ⟨b7, 0, none⟩) := by rw [ha]; simp [Act.eval]
  have t4 : a.eval (.tmp 4) = .pointer (some ⟨b2, 0, none⟩) := by rw [ha]; simp [Act.eval]
  have t5 : a.eval (.tmp 5) = .pointer (some ⟨b3, 0, none⟩) := by rw [ha]; simp [Act.eval]
  have hdf : a.defers = [] := by rw [ha]
  rw [← ha]
  clear ha
  -- the ways out that have no mark
  have hend : ∀ (a' : Act) (W' : World) (br : Nat) (b : Bool), a'.defers = [] → a'.eval (.tmp 7) = .pointer (some ⟨br, 0, none⟩) → Whole W' br 4 #[.bool b] → FB H B kb ge gl ce cl b2 b3 b5 b6 b7 M gd cd o t A l c W d x f b W' →
      bodyPostM Fence.wide 5 Try.prog Try.f54 (FP H B kb ge gl ce cl b2 b3 b5 b6 b7 M gd cd o t A l c W d x f) .ret a' W' := by
    intro a' W' br b hd' h7 hb hf
    show LeavesInM _ _ _ _ _ _ a'.defers _ _
    rw [hd']
    exact ⟨.bool b, res4 Try.results54 h7 (hb.cell 0), b, rfl, hf⟩
  unfold code54
  refine wpIn_seq (region_p 2 ?_)
  intro K hK
  refine ListK.box (i := 0) (u := stV d x) rfl (by simp [t0]) (bx96 W _ _) ?_
  refine ListK.alloc (i := 1) rfl (al4 _) ?_
  refine ListK.done (hK _ _ ?_)
  clear hK K
  have hB1 : Below W.heap.size W (W.alloc (.cells #[.int .i64 d, .int .i64 x] 96)) := (Below.refl _ W).alloc (Nat.le_refl _) _
  have hB2 : Below W.heap.size W ((W.alloc (.cells #[.int .i64 d, .int .i64 x] 96)).alloc (.cells #[.bool false] 4)) := hB1.alloc (by simp) _
  have ws := (Whole.new W 96 #[.int .i64 d, .int .i64 x]).alloc (.cells #[.bool false] 4)
  have wr := Whole.new (W.alloc (.cells #[.int .i64 d, .int .i64 x] 96)) 4 #[.bool false]
  have hsr : W.heap.size ≠ (W.alloc (.cells #[.int .i64 d, .int .i64 x] 96)).heap.size := by simp
  have hfr : W.heap.size ≤ (W.alloc (.cells #[.int .i64 d, .int .i64 x] 96)).heap.size := by simp
  have hfs : W.heap.size ≤ W.heap.size := Nat.le_refl _
  generalize hbr : (W.alloc (.cells #[.int .i64 d, .int .i64 x] 96)).heap.size = br at *
  generalize (W.alloc (.cells #[.int .i64 d, .int .i64 x] 96)).alloc (.cells #[.bool false] 4) = W1 at *
  obtain ⟨bs, hbs⟩ : ∃ bs, bs = W.heap.size := ⟨_, rfl⟩
  rw [← hbs] at ws hsr
  rw [← hbs]
  have hfs : W.heap.size ≤ bs := by omega
  clear hB1 hbs hbr
  generalize hA : Act.put _ _ _ = a1
  have hz_a1 : a1.tmps.size = 56 := by rw [← hA]; simp only [size_put, hsz]
  have u1 : a1.eval (.tmp 1) = .pointer (some ⟨b5, 0, none⟩) := by rw [← hA]; exact (by simp [t1])
  have u2 : a1.eval (.tmp 2) = .pointer (some ⟨b6, 0, none⟩) := by rw [← hA]; exact (by simp [t2])
  have u3 : a1.eval (.tmp 3) = .pointer (some ⟨b7, 0, none⟩) := by rw [← hA]; exact (by simp [t3])
  have u4 : a1.eval (.tmp 4) = .pointer (some ⟨b2, 0, none⟩) := by rw [← hA]; exact (by simp [t4])
  have u5 : a1.eval (.tmp 5) = .pointer (some ⟨b3, 0, none⟩) := by rw [← hA]; exact (by simp [t5])
  have u6 : a1.eval (.tmp 6) = .pointer (some ⟨bs, 0, none⟩) := by rw [← hA]; exact (by simp [hsz])
  have u7 : a1.eval (.tmp 7) = .pointer (some ⟨br, 0, none⟩) := by rw [← hA]; exact (by simp [hsz])
  have hd_a1 : a1.defers = [] := by rw [← hA]; simp only [defers_put, hdf]
  clear hA
  have hi1 : IZ H B kb ge gl ce cl b2 b3 b5 b6 b7 M gd cd o t A l c W d x f bs br [] W1 :=
    ⟨⟨hog.below g hB2, Else.of_below _ hB2, hrow.below hB2, hw2.below hB2 hw2.lt⟩, ws, wr, fun y hy => by cases hy⟩
  clear hB2 ws wr
  have hstep : ∀ (W2 : World) (b : Bool), IZ H B kb ge gl ce cl b2 b3 b5 b6 b7 M gd cd o t A l c W d x f bs br [] W2 → Not H B kb ge gl ce cl b2 b3 b5 b6 b7 M gd cd o t A l c W f (W2.setCell ⟨br, 0, none⟩ (.bool b)) := fun W2 b h =>
    h.nt.else g ((Else.refl (fun k => k = br) W2).setCell (p := ⟨br, 0, none⟩) (.inl rfl) _) (fun k hk e => by have : k = br := e; omega) hH
  have hN : 2 ^ l.length - 1 < 2 ^ l.length := by have := pow_pos' l.length; omega
  refine wpIn_seq (wpIn_seq (regionZ1 (m := 2 ^ l.length - 1) (wideF_plain _) hz_a1 u6 u1 (hi1.ws.cell 0) (hi1.nt.og.c5.cell 0) ?_ ?_))
  · intro W' hW'
    refine whole_nat (B := B) (o := o) (t := t) (A := A) (l := l) (c := c) hl8 rfl (hi1.nt.og.bk.ba.keep (fun b i _ => World.cell?_of_block (by rw [hW'])))
  intro a2 hz2 hd2 v15 he2
  have hi2 := hi1.below g hH (Below.refl W1.heap.size W1).drew
  generalize W1.drew = W2 at *
  clear hi1 W1
  have v1 := (he2 1 (by omega)).trans u1
  have v2 := (he2 2 (by omega)).trans u2
  have v3 := (he2 3 (by omega)).trans u3
  have v4 := (he2 4 (by omega)).trans u4
  have v5 := (he2 5 (by omega)).trans u5
  have v6 := (he2 6 (by omega)).trans u6
  have v7 := (he2 7 (by omega)).trans u7
  by_cases hall : d = 2 ^ l.length - 1
  · refine wpIn_cond (t := true) (v15.trans (by simp [hall])) ?_
    refine wpIn_seq (region_p 1 ?_)
    intro K hK
    refine ListK.store (i := 0) (u := .pointer (some ⟨br, 0, none⟩)) (u' := .bool true) rfl (by simp [v7]) (by simp) (st4 (hi2.wr.cell 0) (hi2.wr.frozen 0)) ?_
    refine ListK.done (hK _ _ (wpIn_ret ?_))
    have h := hstep W2 true hi2
    show bodyPostM Fence.wide 5 Try.prog Try.f54 (FP H B kb ge gl ce cl b2 b3 b5 b6 b7 M gd cd o t A l c W d x f) Exit.ret _ _
    exact hend _ _ br true (by simp only [hd2, hd_a1]) v7 (hi2.wr.set 0 _) (.inl ⟨rfl, [], .slice none 0 0, ⟨h.og, h.el, hall, h.row, h.w2, World.ownsRow_nil _ _ _ _⟩⟩)
  refine wpIn_cond (t := false) (v15.trans (by simp [hall])) (wpIn_skip ?_)
  obtain ⟨bb, hlk, hbad⟩ := hi2.nt.og.gn.look d x
  show (Code.seq _ _).wpIn _ _ _ _ _ _
  refine wpIn_seq (wpIn_seq (region_p 3 ?_))
  intro K hK
  refine ListK.load (i := 0) (p := ⟨b6, 0, none⟩) (v := .map (some M)) rfl (by simp [v2]) (ld92 (hi2.nt.og.c6.cell 0)) ?_
  refine ListK.load (i := 1) (p := ⟨bs, 0, none⟩) (v := stV d x) rfl (by simp [v6]) (ld96 ⟨hi2.ws.cell 0, hi2.ws.cell 1⟩) ?_
  refine ListK.look (i := 2) (u := .map (some M)) (u' := stV d x) (v := .bool bb) rfl (by simp [hz2]) (by simp [hz2]) hlk ?_
  refine ListK.done (hK _ _ ?_)
  clear hK K
  cases bb with
  | true =>
    refine wpIn_cond (t := true) (by simp [hz2]) ?_
    generalize hA : Act.put _ _ _ = a3
    have hz_a3 : a3.tmps.size = 56 := by rw [← hA]; simp only [size_put, hz2]
    have w7 : a3.eval (.tmp 7) = .pointer (some ⟨br, 0, none⟩) := by rw [← hA]; exact (by simp [v7])
    have hd_a3 : a3.defers = [] := by rw [← hA]; simp only [defers_put, hd2, hd_a1]
    clear hA
    refine wpIn_seq (region_p 1 ?_)
    intro K hK
    refine ListK.store (i := 0) (u := .pointer (some ⟨br, 0, none⟩)) (u' := .bool false) rfl (by simp [w7]) (by simp) (st4 (hi2.wr.cell 0) (hi2.wr.frozen 0)) ?_
    refine ListK.done (hK _ _ (wpIn_ret ?_))
    have h := hstep W2 false hi2
    show bodyPostM Fence.wide 5 Try.prog Try.f54 (FP H B kb ge gl ce cl b2 b3 b5 b6 b7 M gd cd o t A l c W d x f) Exit.ret _ _
    exact hend _ _ br false hd_a3 w7 (hi2.wr.set 0 _) (.inr ⟨rfl, hbad rfl, h⟩)
  | false =>
    refine wpIn_cond (t := false) (by simp [hz2]) (wpIn_skip ?_)
    generalize hA : Act.put _ _ _ = a3
    have hz_a3 : a3.tmps.size = 56 := by rw [← hA]; simp only [size_put, hz2]
    have w1 : a3.eval (.tmp 1) = .pointer (some ⟨b5, 0, none⟩) := by rw [← hA]; exact (by simp [v1])
    have w2 : a3.eval (.tmp 2) = .pointer (some ⟨b6, 0, none⟩) := by rw [← hA]; exact (by simp [v2])
    have w3 : a3.eval (.tmp 3) = .pointer (some ⟨b7, 0, none⟩) := by rw [← hA]; exact (by simp [v3])
    have w4 : a3.eval (.tmp 4) = .pointer (some ⟨b2, 0, none⟩) := by rw [← hA]; exact (by simp [v4])
    have w5 : a3.eval (.tmp 5) = .pointer (some ⟨b3, 0, none⟩) := by rw [← hA]; exact (by simp [v5])
    have w6 : a3.eval (.tmp 6) = .pointer (some ⟨bs, 0, none⟩) := by rw [← hA]; exact (by simp [v6])
    have w7 : a3.eval (.tmp 7) = .pointer (some ⟨br, 0, none⟩) := by rw [← hA]; exact (by simp [v7])
    have hd_a3 : a3.defers = [] := by rw [← hA]; simp only [defers_put, hd2, hd_a1]
    clear hA
    show (Code.seq _ _).wpIn _ _ _ _ _ _
    refine wpIn_seq (wpIn_seq (region_p 4 ?_))
    intro K hK
    refine ListK.load (i := 0) (p := ⟨b5, 0, none⟩) (v := .pointer (some ⟨kb, 0, none⟩)) rfl (by simp [w1]) (ld89 (hi2.nt.og.c5.cell 0)) ?_
    refine ListK.field (i := 1) (u := .pointer (some ⟨bs, 0, none⟩)) (v := .pointer (some ⟨bs, 0, none⟩)) rfl (by simp [w6]) (fa96_0 _) ?_
    refine ListK.load (i := 2) (p := ⟨bs, 0, none⟩) (v := .int .i64 (d : Int)) rfl (by simp [hz_a3]) (ld94 (hi2.ws.cell 0)) ?_
    refine ListK.call (i := 3) (vs := #[.pointer (some ⟨kb, 0, none⟩), .int .i64 (d : Int)]) rfl (enters_of Try.func56 (by kernel_rfl) rfl) (by simp [hz_a3]) (((next_any _ _ _)).mono ?_)
    rintro _ _ ⟨rfl, rfl⟩
    refine ⟨_, rfl, ?_⟩
    refine ListK.done (hK _ _ ?_)
    clear hK K
    have hB3 : Below W2.heap.size W2 ((W2.alloc (.cells #[.pointer (some ⟨kb, 0, none⟩)] 89)).alloc (.cells #[.int .i64 d] 94)) := ((Below.refl _ _).alloc (Nat.le_refl _) _).alloc (by simp) _
    have hi3 := hi2.below g hH hB3
    have hp3 := cell_alloc_l (.cells #[.int .i64 d] 94) (cell_new1 W2 (.pointer (some ⟨kb, 0, none⟩)) 89)
    have hq3 := cell_new1 (W2.alloc (.cells #[.pointer (some ⟨kb, 0, none⟩)] 89)) (.int .i64 d) 94
    rw [World.size_alloc] at hq3
    have hqH : W.heap.size ≤ W2.heap.size + 1 := by have := hi2.nt.el.size; omega
    generalize (W2.alloc (.cells #[.pointer (some ⟨kb, 0, none⟩)] 89)).alloc (.cells #[.int .i64 d] 94) = W3 at *
    generalize hA : Act.put _ _ _ = a4
    have hz_a4 : a4.tmps.size = 56 := by rw [← hA]; simp only [size_put, hz_a3]
    have y1 : a4.eval (.tmp 1) = .pointer (some ⟨b5, 0, none⟩) := by rw [← hA]; exact (by simp [w1])
    have y2 : a4.eval (.tmp 2) = .pointer (some ⟨b6, 0, none⟩) := by rw [← hA]; exact (by simp [w2])
    have y3 : a4.eval (.tmp 3) = .pointer (some ⟨b7, 0, none⟩) := by rw [← hA]; exact (by simp [w3])
    have y4 : a4.eval (.tmp 4) = .pointer (some ⟨b2, 0, none⟩) := by rw [← hA]; exact (by simp [w4])
    have y5 : a4.eval (.tmp 5) = .pointer (some ⟨b3, 0, none⟩) := by rw [← hA]; exact (by simp [w5])
    have y6 : a4.eval (.tmp 6) = .pointer (some ⟨bs, 0, none⟩) := by rw [← hA]; exact (by simp [w6])
    have y7 : a4.eval (.tmp 7) = .pointer (some ⟨br, 0, none⟩) := by rw [← hA]; exact (by simp [w7])
    have y22 : a4.eval (.tmp 22) = .func (.func 72) #[] #[.pointer (some ⟨W2.heap.size, 0, none⟩), .pointer (some ⟨W2.heap.size + 1, 0, none⟩)] := by rw [← hA]; exact (by simp [hz_a3])
    have hd_a4 : a4.defers = [] := by rw [← hA]; simp only [defers_put, hd_a3]
    clear hA
    refine wpIn_block (rangeZ hv g ?_ hd hH hi3 hfs hfr hsr ⟨hz_a4, y3, y4, y5, y6, y7⟩ y22 hp3 hq3 hqH ?_ ?_)
    · intro d' x' f' W' hlt hd' h1 h2 h3
      exact ih d' x' f' W' (by omega) hd' h1 h2 h3
    · intro D W' hD hi4 hmk
      have hDH : W.heap.size ≤ D := by have := hi3.nt.el.size; omega
      have hno : NoWay t l d x := by
        rintro ⟨ns, hok⟩
        cases ns with
        | nil => exact hall hok
        | cons k ns =>
          obtain ⟨y, hy, e⟩ := mem_nxt hok.1
          exact hi4.no y hy ⟨ns, by rw [e]; exact hok⟩
      obtain ⟨W5, hup, hgn, he5⟩ := hi4.nt.og.gn.put d x hno
      obtain ⟨a5, ha5⟩ : ∃ a5 : Act, a5 = { a4 with defers := mark D :: a4.defers } := ⟨_, rfl⟩
      have hz5 : a5.tmps.size = 56 := by rw [ha5]; exact hz_a4
      have z2 : a5.eval (.tmp 2) = .pointer (some ⟨b6, 0, none⟩) := by rw [ha5]; exact (ev_df _ _ _).trans y2
      have z6 : a5.eval (.tmp 6) = .pointer (some ⟨bs, 0, none⟩) := by rw [ha5]; exact (ev_df _ _ _).trans y6
      have z7 : a5.eval (.tmp 7) = .pointer (some ⟨br, 0, none⟩) := by rw [ha5]; exact (ev_df _ _ _).trans y7
      have hd5 : a5.defers = [mark D] := by rw [ha5]; simp only [hd_a4]
      show (Code.seq _ _).wpIn _ _ _ _ _ _
      rw [← ha5]
      clear ha5
      refine wpIn_seq (region_p 3 ?_)
      intro K hK
      refine ListK.load (i := 0) (p := ⟨b6, 0, none⟩) (v := .map (some M)) rfl (by simp [z2]) (ld92 (hi4.nt.og.c6.cell 0)) ?_
      refine ListK.load (i := 1) (p := ⟨bs, 0, none⟩) (v := stV d x) rfl (by simp [z6]) (ld96 ⟨hi4.ws.cell 0, hi4.ws.cell 1⟩) ?_
      refine ListK.mapUp (i := 2) (u := .map (some M)) (u' := stV d x) (u'' := .bool true) rfl (by simp [hz5]) (by simp [hz5]) rfl hup ?_
      refine ListK.done (hK _ _ ?_)
      clear hK K
      have hMb : ∀ k, k = M → k < W.heap.size := fun k e => by have := hXlt M (.inr (.inl rfl)); omega
      have hog5 := hi4.nt.og.keep g he5 (fun k _ e => .inr (.inl e)) hgn
      have el5 : Else (XZ b2 M gd) W W5 := hi4.nt.el.step he5 (fun k _ e => .inr (.inl e))
      have row5 := he5.row (fun e => g.nM.2.2.2.2.2.2.2 e) hi4.nt.row
      have w25 := he5.whole (fun e => g.n2.2.2.2.2.2.2.2.1 e.symm) hi4.nt.w2
      have wr5 := he5.whole (fun e => by have := hMb _ e; omega) hi4.wr
      have mk5 : W5.heap[D]? = some (.deferred (some [])) := (he5.block D (Array.getElem?_eq_some_iff.1 hmk).1 (fun e => by have := hMb D e; omega)).trans hmk
      generalize hA : Act.put _ _ _ = a6
      have hz_a6 : a6.tmps.size = 56 := by rw [← hA]; simp only [size_put, hz5]
      have s7 : a6.eval (.tmp 7) = .pointer (some ⟨br, 0, none⟩) := by rw [← hA]; exact (by simp [z7])
      have hd_a6 : a6.defers = [mark D] := by rw [← hA]; simp only [defers_put, hd5]
      clear hA
      refine wpIn_seq (region_p 1 ?_)
      intro K hK
      refine ListK.store (i := 0) (u := .pointer (some ⟨br, 0, none⟩)) (u' := .bool false) rfl (by simp [s7]) (by simp) (st4 (wr5.cell 0) (wr5.frozen 0)) ?_
      refine ListK.done (hK _ _ (wpIn_ret ?_))
      have nt6 : Not H B kb ge gl ce cl b2 b3 b5 b6 b7 M gd cd o t A l c W f (W5.setCell ⟨br, 0, none⟩ (.bool false)) :=
        (Not.mk hog5 el5 row5 w25).else g ((Else.refl (fun k => k = br) W5).setCell (p := ⟨br, 0, none⟩) (.inl rfl) _) (fun k hk e => by have : k = br := e; omega) hH
      have wr6 := wr5.set 0 (.bool false)
      have mk6 : (W5.setCell ⟨br, 0, none⟩ (.bool false)).heap[D]? = some (.deferred (some [])) := (KeepsOthers.setCell _ _ _).same D _ mk5 rfl
      generalize W5.setCell ⟨br, 0, none⟩ (.bool false) = W6 at *
      have wr7 : Whole (W6.putObj D (.deferred none)) br 4 #[.bool false] := (else_put W6 D _).whole (fun e => by
        have h1 : W6.heap[D]? = some (.cells #[.bool false] 4 (0, 0)) := by rw [← e]; exact wr6
        rw [mk6] at h1
        cases h1) wr6
      show LeavesInM _ _ _ _ _ _ a6.defers _ _
      rw [hd_a6]
      refine leaves_one (v := .bool false) mk6 (res4 Try.results54 s7 (wr7.cell 0)) ⟨false, rfl, .inr ⟨rfl, hno, nt6.else g (else_put W6 D _) (fun k hk e => by have : k = D := e; omega) hH⟩⟩
    · intro D W' ns v hD hy hwr hmk
      have hDH : W.heap.size ≤ D := by have := hi3.nt.el.size; omega
      have wr7 : Whole (W'.putObj D (.deferred none)) br 4 #[.bool true] := (else_put W' D _).whole (fun e => by
        have h1 : W'.heap[D]? = some (.cells #[.bool true] 4 (0, 0)) := by rw [← e]; exact hwr
        rw [hmk] at h1
        cases h1) hwr
      show LeavesInM _ _ _ _ _ _ (mark D :: a4.defers) _ _
      rw [hd_a4]
      refine leaves_one (v := .bool true) hmk (res4 Try.results54 ((ev_df a4 (mark D :: a4.defers) _).trans y7) (wr7.cell 0)) ⟨true, rfl, .inl ⟨rfl, ns, v, hy.grown g hH (row := some D) ⟨rfl, rfl, rfl, by simp [World.putObj], fun k _ hne => World.putObj_heap_other (fun e => hne (by rw [e]))⟩ (fun r e => ?_)⟩⟩
      cases e
      exact ⟨hDH, _, hmk, rfl⟩
end
end Go.Proofs.Ytfcnombmphophaa

namespace Go.Proofs.Ytfcnombmphophaa
/-- A way from one state to another, each sale as early as it can be. -/
def RunTo (t : Int) (l : List Sale) : Nat → Int → List Nat → Nat → Int → Prop
  | d, x, [], d', x' => d = d' ∧ x = x'
  | d, x, n :: ns, d', x' => nextB t l d n = true ∧ max x (saleOf l n).lo ≤ (saleOf l n).hi ∧ RunTo t l (d ||| 2 ^ n) (max x (saleOf l n).lo) ns d' x'
theorem RunTo.snoc {t : Int} {l : List Sale} {d' : Nat} {x' : Int} {k : Nat} (h1 : nextB t l d' k = true) (h2 : max x' (saleOf l k).lo ≤ (saleOf l k).hi) : ∀ (ns : List Nat) (d : Nat) (x : Int), RunTo t l d x ns d' x' → RunTo t l d x (ns ++ [k]) (d' ||| 2 ^ k) (max x' (saleOf l k).lo)
  | [], d, x, ⟨e1, e2⟩ => by subst e1; subst e2; exact ⟨h1, h2, rfl, rfl⟩
  | n :: ns, d, x, ⟨a, b, c⟩ => ⟨a, b, RunTo.snoc h1 h2 ns _ _ c⟩
theorem RunTo.path {t : Int} {l : List Sale} {x' : Int} : ∀ (ns : List Nat) (d : Nat) (x : Int), RunTo t l d x ns (2 ^ l.length - 1) x' → PathOk t l d x ns
  | [], _, _, h => h.1
  | _ :: ns, _, _, ⟨a, b, c⟩ => ⟨a, b, RunTo.path ns _ _ c⟩

theorem early_foldl {o t : Int} {l : List Sale} (hv : Valid o t l) {d : Nat} : ∀ (ks : List Nat), (∀ k, k ∈ ks → nextB t l d k = true) → ∀ (E : Nat → Int), E d ≠ 101 → (∀ e, E e ≠ 101 → ∃ ns, RunTo t l 0 0 ns e (E e)) →
    (∀ e, (ks.foldl (stepE l d) E) e ≠ 101 → ∃ ns, RunTo t l 0 0 ns e ((ks.foldl (stepE l d) E) e))
  | [], _, _, _, hE => hE
  | k :: ks, hk, E, hd, hE => by
    have hn := hk k List.mem_cons_self
    have hbit : d.testBit k = false := by simp [nextB] at hn; exact hn.2.1
    have hne : d ||| 2 ^ k ≠ d := by have := or_gt hbit; omega
    refine early_foldl hv ks (fun j hj => hk j (List.mem_cons_of_mem _ hj)) (stepE l d E k) ?_ ?_
    · unfold stepE
      split
      · rw [upd, if_neg (Ne.symm hne)]
        exact hd
      · exact hd
    · unfold stepE
      split
      · rename_i hle
        intro e he
        by_cases h : e = d ||| 2 ^ k
        · subst h
          rw [upd, if_pos rfl] at he ⊢
          by_cases hm : E (d ||| 2 ^ k) ≤ max (E d) (saleOf l k).lo
          · rw [show min (E (d ||| 2 ^ k)) (max (E d) (saleOf l k).lo) = E (d ||| 2 ^ k) by omega] at he ⊢
            exact hE _ he
          · rw [show min (E (d ||| 2 ^ k)) (max (E d) (saleOf l k).lo) = max (E d) (saleOf l k).lo by omega] at he ⊢
            obtain ⟨ns, hns⟩ := hE d hd
            exact ⟨ns ++ [k], RunTo.snoc hn hle ns 0 0 hns⟩
        · rw [upd, if_neg h] at he ⊢
          exact hE e he
      · exact hE
theorem early_run {o t : Int} {l : List Sale} (hv : Valid o t l) : ∀ (k e : Nat), earlyTo t l k e ≠ 101 → ∃ ns, RunTo t l 0 0 ns e (earlyTo t l k e)
  | 0, e, h => by
    by_cases he : e = 0
    · subst he
      exact ⟨[], rfl, by simp [earlyTo, upd]⟩
    · simp [earlyTo, upd, he] at h
  | k + 1, e, h => by
    unfold earlyTo at h ⊢
    split at h
    · rename_i hk
      rw [if_pos hk]
      exact early_run hv k e h
    · rename_i hk
      rw [if_neg hk]
      exact early_foldl hv (nextL t l k) (fun j hj => (List.mem_filter.1 hj).2) (earlyTo t l k) hk (early_run hv k) e h
/-- A batch that does not contradict itself has a way. -/
theorem fits_way {o t : Int} {l : List Sale} (hv : Valid o t l) (h : fitsB t l = true) : ∃ ns, PathOk t l 0 0 ns := by
  unfold fitsB at h
  obtain ⟨ns, hns⟩ := early_run hv (2 ^ l.length) (2 ^ l.length - 1) (by simpa [early] using h)
  exact ⟨ns, hns.path⟩
end Go.Proofs.Ytfcnombmphophaa

namespace Go.Proofs.Ytfcnombmphophaa
open Go.RowKit Go.Shelf
section
variable {P : Program} {ops : Array Oper} {K : Act → World → Prop} {k i d : Nat} {a : Act} {w w' : World} {ty : TypeId} {pos : String} {aft : Array Edge} {v : Value} {gd : Option (Nat × Bool)}
theorem ListK.callV {f : FuncId} {fo : Operand} {caps : Array Value} {args : Array Operand} {tys : Array TypeId} {vs : Array Value} (hi : ops[i]? = some ⟨some d, .call { callee := .value fo, args := args, argTypes := tys }, ty, pos, aft, gd⟩)
    (he : ∀ args w, (callFunc f args).run P w = .ok (.enter f args) w) (hf : a.eval fo = .func (.func f) #[] caps) (hp : args.map a.eval = vs)
    (h : Calls P f (vs ++ caps) w fun e w' => ∃ v, e = .returned v ∧ ListK P ops K k (i + 1) (a.put (some d) v) w') (hw : Region.wanted ⟨some d, .call { callee := .value fo, args := args, argTypes := tys }, ty, pos, aft, gd⟩ (yielded ops a.tmps) = true := by rfl) : ListK P ops K (k + 1) i a w := by
  unfold ListK opG
  simp only [hi]
  rw [if_pos hw]
  simp only [Oper.wp, execOp, resolve, hp, hf, Deferred.ofValue]
  simp [invoke, he, Oper.upon]
  refine h.mono ?_
  rintro e w' ⟨v, rfl, h1⟩
  exact h1
end
theorem al25 (w : World) : (Instr.alloc 25 true (.tuple #[])).run Try.prog w = .ok (.pointer (some ⟨w.heap.size, 0, none⟩)) (w.alloc (.cells #[.slice none 0 0] 25)) := by
  go_simp
theorem al93 (w : World) : (Instr.alloc 93 true (.tuple #[])).run Try.prog w = .ok (.pointer (some ⟨w.heap.size, 0, none⟩)) (w.alloc (.cells #[.nilFunc] 93)) := by
  go_simp
theorem al92 (w : World) : (Instr.alloc 92 true (.tuple #[])).run Try.prog w = .ok (.pointer (some ⟨w.heap.size, 0, none⟩)) (w.alloc (.cells #[.map none] 92)) := by
  go_simp
theorem st92v {w : World} {p : Addr} {u : Value} {r : Option Nat} (h : w.cell? p = some u) (hf : w.frozen? p = false) : (Instr.storeAt 92 (.pointer (some p)) (.map r)).run Try.prog w = .ok () (w.setCell p (.map r)) := by
  go_simp
theorem st93v {w : World} {p : Addr} {u : Value} {f : Fn} {x y : Array Value} (h : w.cell? p = some u) (hf : w.frozen? p = false) : (Instr.storeAt 93 (.pointer (some p)) (.func f x y)).run Try.prog w = .ok () (w.setCell p (.func f x y)) := by
  go_simp
theorem bd96_0 (w : World) : (Instr.build 96 #[]).run Try.prog w = .ok (stV 0 0) w := by
  go_simp
theorem mm92 (w : World) : (Instr.makeMap 92 none).run Try.prog w = .ok (.map (some w.heap.size)) (w.alloc (.map #[] 0)) := by
  kernel_rfl
theorem mk25_0 (w : World) : (Instr.makeSlice 25 (.int .i64 0) (.int .i64 0)).run Try.prog w = .ok (.slice (some ⟨w.heap.size, 0, none⟩) 0 0) (w.alloc (.cells (Array.replicate 0 (.int .i64 0)) 3)) := by kernel_rfl
theorem mk25_1 (w : World) : (Instr.makeSlice 25 (.int .i64 1) (.int .i64 1)).run Try.prog w = .ok (.slice (some ⟨w.heap.size, 0, none⟩) 1 1) (w.alloc (.cells (Array.replicate 1 (.int .i64 0)) 3)) := by kernel_rfl
theorem mk25_2 (w : World) : (Instr.makeSlice 25 (.int .i64 2) (.int .i64 2)).run Try.prog w = .ok (.slice (some ⟨w.heap.size, 0, none⟩) 2 2) (w.alloc (.cells (Array.replicate 2 (.int .i64 0)) 3)) := by kernel_rfl
theorem mk25_3 (w : World) : (Instr.makeSlice 25 (.int .i64 3) (.int .i64 3)).run Try.prog w = .ok (.slice (some ⟨w.heap.size, 0, none⟩) 3 3) (w.alloc (.cells (Array.replicate 3 (.int .i64 0)) 3)) := by kernel_rfl
theorem mk25_4 (w : World) : (Instr.makeSlice 25 (.int .i64 4) (.int .i64 4)).run Try.prog w = .ok (.slice (some ⟨w.heap.size, 0, none⟩) 4 4) (w.alloc (.cells (Array.replicate 4 (.int .i64 0)) 3)) := by kernel_rfl
theorem mk25_5 (w : World) : (Instr.makeSlice 25 (.int .i64 5) (.int .i64 5)).run Try.prog w = .ok (.slice (some ⟨w.heap.size, 0, none⟩) 5 5) (w.alloc (.cells (Array.replicate 5 (.int .i64 0)) 3)) := by kernel_rfl
theorem mk25_6 (w : World) : (Instr.makeSlice 25 (.int .i64 6) (.int .i64 6)).run Try.prog w = .ok (.slice (some ⟨w.heap.size, 0, none⟩) 6 6) (w.alloc (.cells (Array.replicate 6 (.int .i64 0)) 3)) := by kernel_rfl
theorem mk25_7 (w : World) : (Instr.makeSlice 25 (.int .i64 7) (.int .i64 7)).run Try.prog w = .ok (.slice (some ⟨w.heap.size, 0, none⟩) 7 7) (w.alloc (.cells (Array.replicate 7 (.int .i64 0)) 3)) := by kernel_rfl
theorem mk25_8 (w : World) : (Instr.makeSlice 25 (.int .i64 8) (.int .i64 8)).run Try.prog w = .ok (.slice (some ⟨w.heap.size, 0, none⟩) 8 8) (w.alloc (.cells (Array.replicate 8 (.int .i64 0)) 3)) := by kernel_rfl
theorem mk25 {n : Nat} (h : n ≤ 8) (w : World) : (Instr.makeSlice 25 (.int .i64 n) (.int .i64 n)).run Try.prog w = .ok (.slice (some ⟨w.heap.size, 0, none⟩) n n) (w.alloc (.cells (Array.replicate n (.int .i64 0)) 3)) := by
  have : n = 0 ∨ n = 1 ∨ n = 2 ∨ n = 3 ∨ n = 4 ∨ n = 5 ∨ n = 6 ∨ n = 7 ∨ n = 8 := by omega
  rcases this with rfl | rfl | rfl | rfl | rfl | rfl | rfl | rfl | rfl
  · exact mk25_0 w
  · exact mk25_1 w
  · exact mk25_2 w
  · exact mk25_3 w
  · exact mk25_4 w
  · exact mk25_5 w
  · exact mk25_6 w
  · exact mk25_7 w
  · exact mk25_8 w
theorem res225 {fn : Func} {i j k b b' : Nat} {W : World} {a : Act} {x y z : Value} (h : fn.results = #[.cell i 25, .cell j 25, .tmp k]) (hi : a.eval (.tmp i) = .pointer (some ⟨b, 0, none⟩)) (hj : a.eval (.tmp j) = .pointer (some ⟨b', 0, none⟩)) (hk : a.eval (.tmp k) = z)
    (hx : W.cell? ⟨b, 0, none⟩ = some x) (hy : W.cell? ⟨b', 0, none⟩ = some y) : (results fn a.tmps).run Try.prog W = .ok (.tuple #[x, y, z]) W := by
  have e1 : a.tmps[i]?.getD undef = .pointer (some ⟨b, 0, none⟩) := by simpa [Act.eval] using hi
  have e2 : a.tmps[j]?.getD undef = .pointer (some ⟨b', 0, none⟩) := by simpa [Act.eval] using hj
  have e3 : a.tmps[k]?.getD undef = z := by simpa [Act.eval] using hk
  have l1 : (Instr.loadAt 25 (.pointer (some ⟨b, 0, none⟩))).run Try.prog W = .ok x W := ld25 hx
  have l2 : (Instr.loadAt 25 (.pointer (some ⟨b', 0, none⟩))).run Try.prog W = .ok y W := ld25 hy
  simp only [results, h]
  simp [e1, e2, e3]
  go_simp

noncomputable def opsY0 : Array Oper := (Try.f23.body.bind (regionOf 0)).getD #[]
noncomputable def opsY1 : Array Oper := (Try.f23.body.bind (regionOf 1)).getD #[]
noncomputable def opsY2 : Array Oper := (Try.f23.body.bind (regionOf 2)).getD #[]
noncomputable def opsY3 : Array Oper := (Try.f23.body.bind (regionOf 3)).getD #[]
noncomputable def opsY4 : Array Oper := (Try.f23.body.bind (regionOf 4)).getD #[]
noncomputable def opsY5 : Array Oper := (Try.f23.body.bind (regionOf 5)).getD #[]
noncomputable def opsY6 : Array Oper := (Try.f23.body.bind (regionOf 6)).getD #[]
noncomputable def opsY7 : Array Oper := (Try.f23.body.bind (regionOf 7)).getD #[]
noncomputable def opsY8 : Array Oper := (Try.f23.body.bind (regionOf 8)).getD #[]
noncomputable def opsY9 : Array Oper := (Try.f23.body.bind (regionOf 9)).getD #[]
noncomputable def opsY10 : Array Oper := (Try.f23.body.bind (regionOf 10)).getD #[]
noncomputable def tailY : Code := .seq (.region 8 opsY8 false) (.seq (.region 9 opsY9 false) (.seq (.region 10 opsY10 true) .ret))
noncomputable def midY : Code := .seq (.region 4 opsY4 false) (.seq (.region 5 opsY5 false) (.seq (.region 6 opsY6 false) (.seq (.region 7 opsY7 false) tailY)))
noncomputable def code23 : Code := .seq (.region 0 opsY0 false) (.seq (.region 1 opsY1 false) (.seq (.seq (.region 2 opsY2 false) (.cond (.tmp 14) (.seq (.region 3 opsY3 false) .ret) .skip)) midY))
theorem body23 : Try.f23.body = some code23 := by kernel_rfl

/-- What Order gives. -/
def OrdRes (o t : Int) (l : List Sale) (xs ds : List Int) : Prop :=
  if triedE o t l true = 0 then ∃ ns, PathOk t l 0 0 ns ∧ xs = ns.map (fun n => ((n : Nat) : Int)) ∧ ds = (List.range l.length).map (daysOf l 0 ns (fun _ => 0)) else xs = [] ∧ ds = []
abbrev YP (W : World) (o t : Int) (l : List Sale) : Ending → World → Prop := fun e w' => ∃ v1 v2 xs ds, e = .returned (.tuple #[v1, v2, .int .i64 (triedE o t l true)]) ∧ RI w' v1 xs ∧ RI w' v2 ds ∧ OrdRes o t l xs ds ∧ Below W.heap.size W w'

section
attribute [local irreducible] AnyK StepK
set_option maxHeartbeats 1000000 in
theorem regionY10 {F : Fence} {nF : Nat} (hF : WideF F Try.prog) {Q : Exit → Act → World → Prop} {a : Act} {w : World} {b2 b3 n c n' c' : Nat} {A A' : Option Addr} (hsz : a.tmps.size = 29) (t2 : a.eval (.tmp 2) = .pointer (some ⟨b2, 0, none⟩)) (t3 : a.eval (.tmp 3) = .pointer (some ⟨b3, 0, none⟩))
    (w2 : Whole w b2 25 #[.slice A n c]) (w3 : Whole w b3 25 #[.slice A' n' c']) (hne : b3 ≠ b2)
    (hK : ∀ a', a'.tmps.size = 29 → a'.defers = a.defers → a'.eval (.tmp 2) = .pointer (some ⟨b2, 0, none⟩) → a'.eval (.tmp 3) = .pointer (some ⟨b3, 0, none⟩) → a'.eval (.tmp 4) = .int .i64 0 → Q .normal a' ((w.drew.setCell ⟨b2, 0, none⟩ (.slice A n c)).setCell ⟨b3, 0, none⟩ (.slice A' n' c'))) :
    (Code.region 10 opsY10 true).wpIn F nF Try.prog Q a w := by
  refine region_K (KpR (fun w => w.cell? ⟨b2, 0, none⟩ = some (.slice A n c) ∧ w.cell? ⟨b3, 0, none⟩ = some (.slice A' n' c')) (fun _ => false)) hF (by kernel_rfl) Try.mixed ?_
  change AnyK _ _ _ _ 5 (Array.replicate 5 false) _ _
  replace w2 : Whole w.drew b2 25 #[.slice A n c] := w2
  replace w3 : Whole w.drew b3 25 #[.slice A' n' c'] := w3
  generalize w.drew = W at *
  have hR : (fun w : World => w.cell? ⟨b2, 0, none⟩ = some (.slice A n c) ∧ w.cell? ⟨b3, 0, none⟩ = some (.slice A' n' c')) W := ⟨w2.cell 0, w3.cell 0⟩
  refine AnyK.load (i := 0) may_o (p := ⟨b2, 0, none⟩) (v := .slice A n c) (by simp [t2]) (fun w hw => ld25 hw.1) hR ?_
  refine AnyK.load (i := 1) may_o (p := ⟨b3, 0, none⟩) (v := .slice A' n' c') (by simp [t3]) (fun w hw => ld25 hw.2) hR ?_
  refine AnyK.pick1 (i := 2) (by kernel_rfl) ?_
  refine StepK.store (i := 2) (u := .pointer (some ⟨b2, 0, none⟩)) (u' := .slice A n c) rfl (by simp [t2]) (by simp [hsz]) (st25 (w2.cell 0) (w2.frozen 0)) (fun _ hw => ⟨World.cell?_setCell_same _ _ _ hw.1, (cell_set_far (by simpa using hne) _).trans hw.2⟩) ?_
  have w3' := w3.far (p := ⟨b2, 0, none⟩) hne (.slice A n c)
  refine AnyK.pick1 (i := 3) (by kernel_rfl) ?_
  refine StepK.store (i := 3) (u := .pointer (some ⟨b3, 0, none⟩)) (u' := .slice A' n' c') rfl (by simp [t3]) (by simp [hsz]) (st25 (w3'.cell 0) (w3'.frozen 0)) (fun _ hw => ⟨(cell_set_far (by simpa using (Ne.symm hne)) _).trans hw.1, World.cell?_setCell_same _ _ _ hw.2⟩) ?_
  refine AnyK.assign (i := 4) (v := .int .i64 0) (may_free rfl (by kernel_rfl) (by kernel_rfl) (by kernel_rfl)) rfl trivial ?_
  refine AnyK.done (by kernel_rfl) (hK _ ?_ ?_ ?_ ?_ ?_)
  · simp only [size_put, hsz]
  · simp only [defers_put]
  · exact (by simp [t2])
  · exact (by simp [t3])
  · exact (by simp [hsz])
end

theorem row_list {W : World} {g n : Nat} {f : Nat → Int} (h : Row W g n f) (hg : g < W.heap.size) (c : Nat) (hc : n ≤ c) : RI W (.slice (some ⟨g, 0, none⟩) n c) ((List.range n).map f) := by
  refine ⟨some ⟨g, 0, none⟩, c, by simp, by simpa using hc, fun k x hx => ⟨g, 0, rfl, hg, ?_⟩⟩
  have hk : k < n := by
    have := (List.getElem?_eq_some_iff.1 hx).1
    simpa using this
  rw [List.getElem?_map, List.getElem?_range hk] at hx
  simp at hx
  rw [← hx]
  simpa using (h k hk).1
end Go.Proofs.Ytfcnombmphophaa

namespace Go.Proofs.Ytfcnombmphophaa
open Go.RowKit Go.Shelf
theorem row_of_list {W : World} {b g m cap : Nat} {xs : List Int} (h : W.ownsRow b 3 1 (.slice (some ⟨g, 0, none⟩) m cap) m (xs.map (.int .i64 ·))) (hm : m = xs.length) : Row W g m (fun i => (xs[i]?).getD 0) := by
  intro d hd
  refine ⟨?_, ?_⟩
  · have hx : xs[d]? = some xs[d] := List.getElem?_eq_getElem (by omega)
    have := h.cells (g := g) rfl d (.int .i64 xs[d]) (by simp [hx])
    simp only [Addr.add] at this
    simp only [hx, Option.getD_some]
    split at this
    · rename_i h0
      subst h0
      exact this
    · simpa using this
  · rcases h.2 with ⟨h0, _⟩ | ⟨g', cap', cur, h0, _, hg, _⟩
    · cases h0
    · cases h0
      simp [World.frozen?, hg]
theorem rev_list (ns : List Nat) : (List.range ns.length).map (fun i => ((ns.reverse.map fun n => ((n : Nat) : Int))[ns.length - 1 - i]?).getD 0) = ns.map fun n => ((n : Nat) : Int) := by
  apply List.ext_getElem (by simp)
  intro i h1 h2
  simp only [List.length_map, List.length_range] at h1
  have hr : (ns.reverse)[ns.length - 1 - i]? = some ns[i] := by
    rw [List.getElem?_reverse (by omega), List.getElem?_eq_getElem (by omega)]
    congr 2
    omega
  simp only [List.getElem_map, List.getElem_range, List.getElem?_map, hr, Option.map_some, Option.getD_some]
theorem RI.else {Z : Nat → Prop} {W W' : World} {g n c : Nat} {xs : List Int} (h : RI W (.slice (some ⟨g, 0, none⟩) n c) xs) (he : Else Z W W') (hz : ¬ Z g) : RI W' (.slice (some ⟨g, 0, none⟩) n c) xs := by
  obtain ⟨A, c', h1, h2, h3⟩ := h
  cases h1
  refine ⟨_, _, rfl, h2, fun k x hx => ?_⟩
  obtain ⟨b, off, e1, e2, e3⟩ := h3 k x hx
  cases e1
  exact ⟨_, _, rfl, Nat.lt_of_lt_of_le e2 he.size, he.cell hz e3⟩

section
variable {H B kb ge gl ce cl b2 b3 b5 b6 b7 M gd cd : Nat} {o t : Int} {A : Option Addr} {l : List Sale} {c : Nat}
set_option maxRecDepth 10000 in
set_option maxHeartbeats 2000000 in
theorem tailY_wp {a : Act} {W0 W : World} (hv : Valid o t l) (hE : triedE o t l true = 0) (hway : ∃ ns, PathOk t l 0 0 ns) (g : Geo H B kb ge gl b2 b3 b5 b6 b7 M gd) (hog : Og H B kb ge gl ce cl b2 b3 b5 b6 b7 M gd cd o t A l c W) (hrow : Row W gd l.length (fun _ => 0)) (hgd : gd < W.heap.size) (hcd : l.length ≤ cd) (hw2 : Whole W b2 25 #[.slice none 0 0])
    (hB : Below W0.heap.size W0 W) (h2 : W0.heap.size ≤ b2) (h3 : W0.heap.size ≤ b3) (hM : W0.heap.size ≤ M) (hg : W0.heap.size ≤ gd)
    (hsz : a.tmps.size = 29) (hdf : a.defers = []) (t2 : a.eval (.tmp 2) = .pointer (some ⟨b2, 0, none⟩)) (t3 : a.eval (.tmp 3) = .pointer (some ⟨b3, 0, none⟩)) (t7 : a.eval (.tmp 7) = .pointer (some ⟨b7, 0, none⟩)) :
    tailY.wpIn Fence.wide 5 Try.prog (bodyPost Try.prog Try.f23 (YP W0 o t l)) a W := by
  have hHW := hog.hH
  have hl8 := hv.len
  have hlt := g.lt
  unfold tailY
  refine wpIn_seq (region_p 3 ?_)
  intro K hK
  refine ListK.load (i := 0) (p := ⟨b7, 0, none⟩) (v := .func (.func 54) #[] (capsZ b2 b3 b5 b6 b7)) rfl (by simp [t7]) (ld93 (hog.c7.cell 0)) ?_
  refine ListK.bld (i := 1) (ps := #[]) (v := stV 0 0) rfl (by simp []) (bd96_0 _) ?_
  refine ListK.callV (i := 2) (f := 54) (caps := (capsZ b2 b3 b5 b6 b7)) (vs := #[stV 0 0]) rfl (enters_of Try.func54 (by kernel_rfl) rfl) (by simp [hsz]) (by simp [hsz]) (((from_any hv g (2 ^ l.length) 0 0 _ W (Nat.sub_le _ _) (pow_pos' _) hog hrow hw2)).mono ?_)
  rintro _ W1 ⟨b, rfl, hf⟩
  refine ⟨_, rfl, ?_⟩
  refine ListK.done (hK _ _ ?_)
  clear hK K
  rcases hf with ⟨rfl, ns, v, hy⟩ | ⟨rfl, hno, -⟩
  rotate_left
  · exact absurd hway hno
  generalize hA : Act.put _ _ _ = a1
  have hz_a1 : a1.tmps.size = 29 := by rw [← hA]; simp only [size_put, hsz]
  have u2 : a1.eval (.tmp 2) = .pointer (some ⟨b2, 0, none⟩) := by rw [← hA]; exact (by simp [t2])
  have u3 : a1.eval (.tmp 3) = .pointer (some ⟨b3, 0, none⟩) := by rw [← hA]; exact (by simp [t3])
  have hd_a1 : a1.defers = [] := by rw [← hA]; simp only [defers_put, hdf]
  clear hA
  have b23 : b3 ≠ b2 := g.n2.2.2.2.2.2.2.1
  have hB1 : Below W0.heap.size W0 W1 := hB.trans (hy.el.below hB.size (fun k hk hx => by rcases hx with e | e | e <;> omega))
  have hgo : ∀ W2, RI W2 v (ns.map fun n => ((n : Nat) : Int)) → (∃ A' n' c', v = .slice A' n' c' ∧ ∀ b', A' = some b' → b'.block ≠ b2 ∧ b'.block ≠ b3) → Below W0.heap.size W0 W2 → Whole W2 b2 25 #[v] → Whole W2 b3 25 #[.slice (some ⟨gd, 0, none⟩) l.length cd] → Row W2 gd l.length (daysOf l 0 ns fun _ => 0) → gd < W2.heap.size → ∀ a2 : Act, a2.tmps.size = 29 → a2.defers = [] → a2.eval (.tmp 2) = .pointer (some ⟨b2, 0, none⟩) → a2.eval (.tmp 3) = .pointer (some ⟨b3, 0, none⟩) →
      (Code.seq (.region 10 opsY10 true) .ret).wpIn Fence.wide 5 Try.prog (bodyPost Try.prog Try.f23 (YP W0 o t l)) a2 W2 := by
    rintro W2 hri ⟨A', n', c', rfl, hA'⟩ hb2 w2 w3 hr2 hgd2 a2 hz2 hd2 v2 v3
    refine wpIn_seq (regionY10 (wideF_plain _) hz2 v2 v3 w2 w3 b23 ?_)
    intro a3 hz3 hd3 y2 y3 y4
    have e3 : Else (fun k => k = b2 ∨ k = b3) W2 ((W2.drew.setCell ⟨b2, 0, none⟩ (.slice A' n' c')).setCell ⟨b3, 0, none⟩ (.slice (some ⟨gd, 0, none⟩) l.length cd)) :=
      ((Else.refl (fun k => k = b2 ∨ k = b3) W2).drew.setCell (p := ⟨b2, 0, none⟩) (.inl (.inl rfl)) _).setCell (p := ⟨b3, 0, none⟩) (.inl (.inr rfl)) _
    have x2 : Whole ((W2.drew.setCell ⟨b2, 0, none⟩ (.slice A' n' c')).setCell ⟨b3, 0, none⟩ (.slice (some ⟨gd, 0, none⟩) l.length cd)) b2 25 #[.slice A' n' c'] := (Whole.set (w := W2.drew) w2 0 (.slice A' n' c')).far (p := ⟨b3, 0, none⟩) (Ne.symm b23) _
    have x3 : Whole ((W2.drew.setCell ⟨b2, 0, none⟩ (.slice A' n' c')).setCell ⟨b3, 0, none⟩ (.slice (some ⟨gd, 0, none⟩) l.length cd)) b3 25 #[.slice (some ⟨gd, 0, none⟩) l.length cd] := (Whole.far (w := W2.drew) w3 (p := ⟨b2, 0, none⟩) b23 (.slice A' n' c')).set 0 (.slice (some ⟨gd, 0, none⟩) l.length cd)
    generalize (W2.drew.setCell ⟨b2, 0, none⟩ (.slice A' n' c')).setCell ⟨b3, 0, none⟩ (.slice (some ⟨gd, 0, none⟩) l.length cd) = W3 at *
    refine wpIn_ret ?_
    show bodyPost Try.prog Try.f23 (YP W0 o t l) Exit.ret _ _
    have g2 : gd ≠ b2 := g.n2.2.2.2.2.2.2.2.2
    have g3 : gd ≠ b3 := fun e => g.ng.2.2.2.2.2.2 e.symm
    refine bodyPost_ret (v := .tuple #[.slice A' n' c', .slice (some ⟨gd, 0, none⟩) l.length cd, .int .i64 0]) (res225 (b := b2) (b' := b3) Try.results23 y2 y3 y4 (x2.cell 0) (x3.cell 0)) (hd3.trans hd2) ⟨_, _, ns.map (fun n => ((n : Nat) : Int)), _, by rw [hE], ?_, row_list (e3.row (by rintro (e | e) <;> contradiction) hr2) (Nat.lt_of_lt_of_le hgd2 e3.size) cd hcd, ?_, hb2.trans (e3.below hb2.size (fun k hk hx => by rcases hx with e | e <;> omega))⟩
    · obtain ⟨A2, c2, e1, e2, e4⟩ := hri
      cases e1
      refine ⟨_, _, rfl, e2, fun k x hx => ?_⟩
      obtain ⟨b', off, e5, e6, e7⟩ := e4 k x hx
      have hne := hA' _ e5
      exact ⟨b', off, e5, Nat.lt_of_lt_of_le e6 e3.size, e3.cell (by rintro (e | e); exact hne.1 e; exact hne.2 e) e7⟩
    · unfold OrdRes
      rw [if_pos hE]
      exact ⟨ns, hy.ok, rfl, rfl⟩
  rcases hy.own.2 with ⟨hvn, hn0⟩ | ⟨gg, cap, cur, hvn, hbase, hgg, hcap, _⟩
  · have hns : ns = [] := List.eq_nil_of_length_eq_zero hn0
    subst hns
    subst hvn
    refine wpIn_seq (region_p 2 ?_)
    intro K hK
    refine ListK.load (i := 0) (p := ⟨b2, 0, none⟩) (v := .slice none 0 0) rfl (by simp [u2]) (ld25 (hy.w2.cell 0)) ?_
    refine ListK.call (i := 1) (vs := #[.slice none 0 0]) rfl (enters_of Try.func58 (by kernel_rfl) rfl) (by simp [hz_a1]) (((reverse_nil W1)).mono ?_)
    rintro _ _ ⟨rfl, rfl⟩
    refine ⟨_, rfl, ?_⟩
    refine ListK.done (hK _ _ ?_)
    clear hK K
    refine hgo W1 (RI.nil _) ⟨none, 0, 0, rfl, fun _ h => by cases h⟩ hB1 hy.w2 hy.og.c3 hy.row (Nat.lt_of_lt_of_le hgd hy.el.size) _ ?_ ?_ ?_ ?_
    · simp only [size_put, hz_a1]
    · simp only [defers_put, hd_a1]
    · exact (by simp [u2])
    · exact (by simp [u3])
  · subst hvn
    have hsame : ns.reverse.map (fun n => Value.int .i64 ((n : Nat) : Int)) = (ns.reverse.map fun n => ((n : Nat) : Int)).map (.int .i64 ·) := by simp
    have hown := hy.own
    rw [hsame] at hown
    have hrw := row_of_list hown (by simp)
    have hl4 := PathOk.len ns _ _ (pow_pos' _) hy.ok
    have hp8 := pow_le hl8
    have hggH : H ≤ gg := Nat.le_trans hHW hbase
    refine wpIn_seq (region_p 2 ?_)
    intro K hK
    refine ListK.load (i := 0) (p := ⟨b2, 0, none⟩) (v := .slice (some ⟨gg, 0, none⟩) ns.length cap) rfl (by simp [u2]) (ld25 (hy.w2.cell 0)) ?_
    refine ListK.call (i := 1) (vs := #[.slice (some ⟨gg, 0, none⟩) ns.length cap]) rfl (enters_of Try.func58 (by kernel_rfl) rfl) (by simp [hz_a1]) (((reverse_row gg ns.length cap _ W1 (by omega) hrw)).mono ?_)
    rintro _ W2 ⟨rfl, hr2, e2⟩
    refine ⟨_, rfl, ?_⟩
    refine ListK.done (hK _ _ ?_)
    clear hK K
    refine hgo W2 ?_ ⟨_, _, _, rfl, fun b' hb' => by cases hb'; exact ⟨by simp only []; omega, by simp only []; omega⟩⟩ (hB1.trans (e2.below hB1.size (fun k hk e => by have : k = gg := e; have := hB.size; omega))) (e2.whole (fun e => by have : b2 = gg := e; omega) hy.w2) (e2.whole (fun e => by have : b3 = gg := e; omega) hy.og.c3) (e2.row (fun e => by have : gd = gg := e; omega) hy.row) (Nat.lt_of_lt_of_le hgd (Nat.le_trans hy.el.size e2.size)) _ ?_ ?_ ?_ ?_
    · have := row_list hr2 (Nat.lt_of_lt_of_le (Array.getElem?_eq_some_iff.1 hgg).1 e2.size) cap hcap
      rw [rev_list] at this
      exact this
    · simp only [size_put, hz_a1]
    · simp only [defers_put, hd_a1]
    · exact (by simp [u2])
    · exact (by simp [u3])
end
end Go.Proofs.Ytfcnombmphophaa

namespace Go.Proofs.Ytfcnombmphophaa
open Go.RowKit Go.Shelf
section
variable {P : Program} {ops : Array Oper} {K : Act → World → Prop} {k i d : Nat} {a : Act} {w w' : World} {ty : TypeId} {pos : String} {aft : Array Edge} {v : Value} {gd : Option (Nat × Bool)}
theorem ListK.mkS {t : TypeId} {x y : Operand} {u u' : Value} (hi : ops[i]? = some ⟨some d, .makeSlice t x y, ty, pos, aft, gd⟩) (hx : a.eval x = u) (hy : a.eval y = u') (hv : (Instr.makeSlice t u u').run P w = .ok v w')
    (h : ListK P ops K k (i + 1) (a.put (some d) v) w') (hw : Region.wanted ⟨some d, .makeSlice t x y, ty, pos, aft, gd⟩ (yielded ops a.tmps) = true := by rfl) : ListK P ops K (k + 1) i a w := ListK.valW hi hw (by simp [execOp, hx, hy, hv]) h
theorem ListK.mkM {t : TypeId} (hi : ops[i]? = some ⟨some d, .makeMap t none, ty, pos, aft, gd⟩) (hv : (Instr.makeMap t none).run P w = .ok v w')
    (h : ListK P ops K k (i + 1) (a.put (some d) v) w') (hw : Region.wanted ⟨some d, .makeMap t none, ty, pos, aft, gd⟩ (yielded ops a.tmps) = true := by rfl) : ListK P ops K (k + 1) i a w := ListK.valW hi hw (by simp [execOp, hv]) h
theorem ListK.mkF {f : Fn} {cs : Array Operand} {vs : Array Value} (hi : ops[i]? = some ⟨some d, .makeFunc f #[] cs, ty, pos, aft, gd⟩) (hc : cs.map a.eval = vs)
    (h : ListK P ops K k (i + 1) (a.put (some d) (.func f #[] vs)) w) (hw : Region.wanted ⟨some d, .makeFunc f #[] cs, ty, pos, aft, gd⟩ (yielded ops a.tmps) = true := by rfl) : ListK P ops K (k + 1) i a w :=
  ListK.valW hi hw (by
    have : (Instr.makeFunc f #[] vs).run P w = .ok (.func f #[] vs) w := rfl
    simp [execOp, hc, this]) h
end
theorem whole_one {W : World} {g : Nat} {t : TypeId} {v u : Value} {k i : Nat} (h : Whole W g t #[v]) (hc : W.cell? ⟨k, i, none⟩ = some u) (hne : i ≠ 0 ∨ u ≠ v) : k ≠ g := by
  rintro rfl
  have h1 := h.cell i
  rw [hc] at h1
  rcases hne with hne | hne
  · cases i with
    | zero => exact hne rfl
    | succ i => simp at h1
  · cases i with
    | zero => simp at h1; exact hne h1
    | succ i => simp at h1
theorem BookAt.rebase {W : World} {B B' kb ge gl ce cl : Nat} {o t : Int} {A : Option Addr} {l : List Sale} {c : Nat} (b : BookAt W B kb ge gl ce cl o t A l c) (hs : SalesAt W B' A l) (hB : B' ≤ W.heap.size) : BookAt W B' kb ge gl ce cl o t A l c :=
  ⟨⟨b.ba.c0, b.ba.c1, b.ba.c2, hs⟩, b.c3, b.c4, b.e, b.f, hB⟩

set_option maxRecDepth 10000 in
set_option maxHeartbeats 4000000 in
theorem order_any (o t : Int) (A : Option Addr) (l : List Sale) (c : Nat) (W : World) (hl : l.length ≤ 1000000) (hs : SalesAt W W.heap.size A l) :
    Calls Try.prog 23 #[.agg #[.int .i64 o, .int .i64 t, .slice A l.length c]] W (YP W o t l) := by
  refine (callsIn_wide (n := 5)).1 (callsIn_of_wp Try.func23 body23 trivial ?_ rfl)
  obtain ⟨a, ha⟩ : ∃ a : Act, a = { tmps := #[.agg #[.int .i64 o, .int .i64 t, .slice A l.length c]] ++ Array.replicate (Try.f23.ntmps - (#[.agg #[.int .i64 o, .int .i64 t, .slice A l.length c]] : Array Value).size) undef, defers := [] } := ⟨_, rfl⟩
  have hsz : a.tmps.size = 29 := by rw [ha]; simp [Try.ntmps23]
  have t0 : a.eval (.tmp 0) = .agg #[.int .i64 o, .int .i64 t, .slice A l.length c] := by rw [ha]; simp [Act.eval]
  have hdf : a.defers = [] := by rw [ha]
  rw [← ha]
  clear ha
  unfold code23
  refine wpIn_seq (region_p 4 ?_)
  intro K hK
  refine ListK.box (i := 0) (u := .agg #[.int .i64 o, .int .i64 t, .slice A l.length c]) rfl (by simp [t0]) (bx31 W _ _ _ _ _) ?_
  refine ListK.alloc (i := 1) rfl (al25 _) ?_
  refine ListK.alloc (i := 2) rfl (al25 _) ?_
  refine ListK.assign (i := 3) (v := .int .i64 0) rfl (by simp) ?_
  refine ListK.done (hK _ _ ?_)
  clear hK K
  have hB1 : Below W.heap.size W (((W.alloc (.cells #[.int .i64 o, .int .i64 t, .slice A l.length c] 31)).alloc (.cells #[.slice none 0 0] 25)).alloc (.cells #[.slice none 0 0] 25)) := (((Below.refl _ W).alloc (Nat.le_refl _) _).alloc (by simp) _).alloc (by simp; omega) _
  have wb := ((Whole.new W 31 #[.int .i64 o, .int .i64 t, .slice A l.length c]).alloc (.cells #[.slice none 0 0] 25)).alloc (.cells #[.slice none 0 0] 25)
  have w2 := (Whole.new (W.alloc (.cells #[.int .i64 o, .int .i64 t, .slice A l.length c] 31)) 25 #[.slice none 0 0]).alloc (.cells #[.slice none 0 0] 25)
  have w3 := Whole.new ((W.alloc (.cells #[.int .i64 o, .int .i64 t, .slice A l.length c] 31)).alloc (.cells #[.slice none 0 0] 25)) 25 #[.slice none 0 0]
  have hS1 : (((W.alloc (.cells #[.int .i64 o, .int .i64 t, .slice A l.length c] 31)).alloc (.cells #[.slice none 0 0] 25)).alloc (.cells #[.slice none 0 0] 25)).heap.size = W.heap.size + 3 := by simp
  simp only [World.size_alloc] at w2 w3
  generalize ((W.alloc (.cells #[.int .i64 o, .int .i64 t, .slice A l.length c] 31)).alloc (.cells #[.slice none 0 0] 25)).alloc (.cells #[.slice none 0 0] 25) = W1 at *
  simp only [World.size_alloc]
  obtain ⟨h, hh⟩ : ∃ h, h = W.heap.size := ⟨_, rfl⟩
  rw [← hh] at hs hB1 wb w2 w3 hS1 ⊢
  have hs1 : SalesAt W1 W1.heap.size A l := (hs.below hB1 (Nat.le_refl _)).more (by omega)
  generalize hA : Act.put _ _ _ = a1
  have hz_a1 : a1.tmps.size = 29 := by rw [← hA]; simp only [size_put, hsz]
  have u1 : a1.eval (.tmp 1) = .pointer (some ⟨h, 0, none⟩) := by rw [← hA]; exact (by simp [hsz])
  have u2 : a1.eval (.tmp 2) = .pointer (some ⟨(h + 1), 0, none⟩) := by rw [← hA]; exact (by simp [hsz])
  have u3 : a1.eval (.tmp 3) = .pointer (some ⟨(h + 2), 0, none⟩) := by rw [← hA]; exact (by simp [hsz])
  have u4 : a1.eval (.tmp 4) = .int .i64 0 := by rw [← hA]; exact (by simp [hsz])
  have hd_a1 : a1.defers = [] := by rw [← hA]; simp only [defers_put, hdf]
  clear hA
  by_cases hE : triedE o t l true = 0
  · obtain ⟨h0, -, hf⟩ := triedE_zero hE
    have hv := valid_of_fault h0
    have hl8 := hv.len
    refine wpIn_seq (region_p 8 ?_)
    intro K hK
    refine ListK.load (i := 0) (p := ⟨h, 0, none⟩) (v := .agg #[.int .i64 o, .int .i64 t, .slice A l.length c]) rfl (by simp [u1]) (ld31' ⟨wb.cell 0, wb.cell 1, wb.cell 2⟩) ?_
    refine ListK.call (i := 1) (vs := #[.agg #[.int .i64 o, .int .i64 t, .slice A l.length c], .bool true]) rfl (enters_of Try.func53 (by kernel_rfl) rfl) (by simp [hz_a1]) (((tried_ok o t A l c W1 hs1 h0 hf)).mono ?_)
    rintro _ W2 ⟨B0, kb, ge, gl, ce, cl, rfl, hbk, hb2⟩
    refine ⟨_, rfl, ?_⟩
    refine ListK.move (i := 2) (v := .tuple #[.pointer (some ⟨kb, 0, none⟩), .int .i64 0]) rfl (by simp [hz_a1]) ?_
    refine ListK.extract (i := 3) (u := .tuple #[.pointer (some ⟨kb, 0, none⟩), .int .i64 0]) (v := .pointer (some ⟨kb, 0, none⟩)) rfl (by simp [hz_a1]) (ex0 _ _ _) ?_
    refine ListK.extract (i := 4) (u := .tuple #[.pointer (some ⟨kb, 0, none⟩), .int .i64 0]) (v := .int .i64 0) rfl (by simp [hz_a1]) (ex1 _ _ _) ?_
    refine ListK.alloc (i := 5) rfl (al89 W2) ?_
    refine ListK.store (i := 6) (u := .pointer (some ⟨W2.heap.size, 0, none⟩)) (u' := .pointer (some ⟨kb, 0, none⟩)) rfl (by simp [hz_a1]) (by simp [hz_a1]) (sa89 W2 _) ?_
    refine ListK.assign (i := 7) (v := .int .i64 0) rfl (by simp [hz_a1]) ?_
    refine ListK.done (hK _ _ ?_)
    clear hK K
    have hbl := hbk.lt
    have wb2 := wb.below hb2 wb.lt
    have w22 := w2.below hb2 w2.lt
    have w32 := w3.below hb2 w3.lt
    have hB2 : Below h W W2 := hB1.trans (hb2.mono (by omega))
    have hS2 := hb2.size
    have hs2 := hs.below hB2 (Nat.le_refl _)
    have hbk2 := hbk.rebase hs2 (by omega)
    have k2 := whole_one w22 hbk2.c3 (.inl (by omega))
    have k3 := whole_one w32 hbk2.c3 (.inl (by omega))
    have hp := pow_pos' l.length
    have e2 := whole_one w22 (hbk2.e 0 (by omega)) (.inr (by simp))
    have e3 := whole_one w32 (hbk2.e 0 (by omega)) (.inr (by simp))
    have f2 := whole_one w22 (hbk2.f 0 (by omega)) (.inr (by simp))
    have f3 := whole_one w32 (hbk2.f 0 (by omega)) (.inr (by simp))
    have ltE := block_lt_of_cell (hbk2.e 0 (by omega))
    have ltF := block_lt_of_cell (hbk2.f 0 (by omega))
    simp only [] at ltE ltF
    have hb3 : Below W2.heap.size W2 (W2.alloc (.cells #[.pointer (some ⟨kb, 0, none⟩)] 89)) := (Below.refl _ _).alloc (Nat.le_refl _) _
    have hbk3 := hbk2.keep hb3
    have wb3 := wb2.below hb3 wb2.lt
    have w23 := w22.below hb3 w22.lt
    have w33 := w32.below hb3 w32.lt
    have hB3 : Below h W (W2.alloc (.cells #[.pointer (some ⟨kb, 0, none⟩)] 89)) := hB2.trans (hb3.mono (by omega))
    have c53 := Whole.new W2 89 #[.pointer (some ⟨kb, 0, none⟩)]
    have hS3 : (W2.alloc (.cells #[.pointer (some ⟨kb, 0, none⟩)] 89)).heap.size = W2.heap.size + 1 := by simp
    generalize hb5 : W2.heap.size = b5 at *
    generalize W2.alloc (.cells #[.pointer (some ⟨kb, 0, none⟩)] 89) = W3 at *
    clear hbk hbk2 wb2 w22 w32 hB2 hs2 hb3
    generalize hA : Act.put _ _ _ = a2
    have hz_a2 : a2.tmps.size = 29 := by rw [← hA]; simp only [size_put, hz_a1]
    have v1 : a2.eval (.tmp 1) = .pointer (some ⟨h, 0, none⟩) := by rw [← hA]; exact (by simp [u1])
    have v2 : a2.eval (.tmp 2) = .pointer (some ⟨(h + 1), 0, none⟩) := by rw [← hA]; exact (by simp [u2])
    have v3 : a2.eval (.tmp 3) = .pointer (some ⟨(h + 2), 0, none⟩) := by rw [← hA]; exact (by simp [u3])
    have v4 : a2.eval (.tmp 4) = .int .i64 0 := by rw [← hA]; exact (by simp [hz_a1])
    have v5 : a2.eval (.tmp 5) = .pointer (some ⟨b5, 0, none⟩) := by rw [← hA]; exact (by simp [hz_a1])
    have hd_a2 : a2.defers = [] := by rw [← hA]; simp only [defers_put, hd_a1]
    clear hA
    refine wpIn_seq (wpIn_seq (region_p 2 ?_))
    intro K hK
    refine ListK.move (i := 0) (v := .int .i64 0) rfl (by simp [v4]) ?_
    refine ListK.bin (i := 1) (u := .int .i64 0) (u' := .int .i64 0) (v := .bool false) rfl (by simp [hz_a2]) (by simp) (neq27F rfl _) ?_
    refine ListK.done (hK _ _ ?_)
    clear hK K
    refine wpIn_cond (t := false) (by simp [hz_a2]) (wpIn_skip ?_)
    show midY.wpIn _ _ _ _ _ _
    unfold midY
    generalize hA : Act.put _ _ _ = a3
    have hz_a3 : a3.tmps.size = 29 := by rw [← hA]; simp only [size_put, hz_a2]
    have w1 : a3.eval (.tmp 1) = .pointer (some ⟨h, 0, none⟩) := by rw [← hA]; exact (by simp [v1])
    have w2 : a3.eval (.tmp 2) = .pointer (some ⟨(h + 1), 0, none⟩) := by rw [← hA]; exact (by simp [v2])
    have w3 : a3.eval (.tmp 3) = .pointer (some ⟨(h + 2), 0, none⟩) := by rw [← hA]; exact (by simp [v3])
    have w5 : a3.eval (.tmp 5) = .pointer (some ⟨b5, 0, none⟩) := by rw [← hA]; exact (by simp [v5])
    have hd_a3 : a3.defers = [] := by rw [← hA]; simp only [defers_put, hd_a2]
    clear hA
    have hc2 := wb3.cell 2
    have w34 := w33.alloc (.cells (Array.replicate l.length (.int .i64 0)) 3)
    refine wpIn_seq (region_p 5 ?_)
    intro K hK
    refine ListK.field (i := 0) (u := .pointer (some ⟨h, 0, none⟩)) (v := .pointer (some ⟨h, 2, none⟩)) rfl (by simp [w1]) (fa31_2 _) ?_
    refine ListK.load (i := 1) (p := ⟨h, 2, none⟩) (v := .slice A l.length c) rfl (by simp [hz_a3]) (ld29 (hc2)) ?_
    refine ListK.len (i := 2) (u := .slice A l.length c) (v := .int .i64 l.length) rfl (by simp [hz_a3]) (ln29 _ _ _ _ _) rfl ?_
    refine ListK.mkS (i := 3) (u := .int .i64 l.length) (u' := .int .i64 l.length) rfl (by simp [hz_a3]) (by simp [hz_a3]) (mk25 hl8 W3) ?_
    refine ListK.store (i := 4) (u := .pointer (some ⟨(h + 2), 0, none⟩)) (u' := .slice (some ⟨W3.heap.size, 0, none⟩) l.length l.length) rfl (by simp [w3]) (by simp [hz_a3]) (st25 (w34.cell 0) (w34.frozen 0)) ?_
    refine ListK.done (hK _ _ ?_)
    clear hK K
    have wrow := Whole.new W3 3 (Array.replicate l.length (.int .i64 0))
    have hrow : Row (W3.alloc (.cells (Array.replicate l.length (.int .i64 0)) 3)) W3.heap.size l.length (fun _ => 0) := fun d hd => ⟨(wrow.cell d).trans (by simp [hd]), wrow.frozen d⟩
    have hb4 : Below W3.heap.size W3 (W3.alloc (.cells (Array.replicate l.length (.int .i64 0)) 3)) := (Below.refl _ _).alloc (Nat.le_refl _) _
    have e4 : Else (fun k => k = h + 2) W3 ((W3.alloc (.cells (Array.replicate l.length (.int .i64 0)) 3)).setCell ⟨h + 2, 0, none⟩ (.slice (some ⟨W3.heap.size, 0, none⟩) l.length l.length)) := (Else.of_below (fun k => k = h + 2) hb4).setCell (p := ⟨h + 2, 0, none⟩) (.inl rfl) _
    have hbk4 := hbk3.else e4 (fun k hk e => by have : k = h + 2 := e; omega) (fun e => k3 e) (fun e => e3 e) (fun e => f3 e)
    have w24 := e4.whole (fun e => by have : h + 1 = h + 2 := e; omega) w23
    have c54 := e4.whole (fun e => by have : b5 = h + 2 := e; omega) c53
    have w35 := w34.set 0 (.slice (some ⟨W3.heap.size, 0, none⟩) l.length l.length)
    have hrow4 := hrow.far (p := ⟨h + 2, 0, none⟩) (by simp; omega) (.slice (some ⟨W3.heap.size, 0, none⟩) l.length l.length)
    have hB4 : Below h W ((W3.alloc (.cells (Array.replicate l.length (.int .i64 0)) 3)).setCell ⟨h + 2, 0, none⟩ (.slice (some ⟨W3.heap.size, 0, none⟩) l.length l.length)) := hB3.trans (e4.below (by omega) (fun k hk e => by have : k = h + 2 := e; omega))
    have hS4 : ((W3.alloc (.cells (Array.replicate l.length (.int .i64 0)) 3)).setCell ⟨h + 2, 0, none⟩ (.slice (some ⟨W3.heap.size, 0, none⟩) l.length l.length)).heap.size = W3.heap.size + 1 := by simp [World.setCell]
    generalize hgd : W3.heap.size = gd at *
    generalize (W3.alloc (.cells (Array.replicate l.length (.int .i64 0)) 3)).setCell ⟨h + 2, 0, none⟩ (.slice (some ⟨gd, 0, none⟩) l.length l.length) = W4 at *
    clear wb3 w23 w33 w34 hB3 c53 hbk3 hc2 wrow hrow hb4 e4
    generalize hA : Act.put _ _ _ = a4
    have hz_a4 : a4.tmps.size = 29 := by rw [← hA]; simp only [size_put, hz_a3]
    have x1 : a4.eval (.tmp 1) = .pointer (some ⟨h, 0, none⟩) := by rw [← hA]; exact (by simp [w1])
    have x2 : a4.eval (.tmp 2) = .pointer (some ⟨(h + 1), 0, none⟩) := by rw [← hA]; exact (by simp [w2])
    have x3 : a4.eval (.tmp 3) = .pointer (some ⟨(h + 2), 0, none⟩) := by rw [← hA]; exact (by simp [w3])
    have x5 : a4.eval (.tmp 5) = .pointer (some ⟨b5, 0, none⟩) := by rw [← hA]; exact (by simp [w5])
    have hd_a4 : a4.defers = [] := by rw [← hA]; simp only [defers_put, hd_a3]
    clear hA
    have m6 := ((Whole.new (W4.alloc (.map #[] 0)) 92 #[.map none]))
    simp only [World.size_alloc] at m6
    refine wpIn_seq (region_p 3 ?_)
    intro K hK
    refine ListK.mkM (i := 0) rfl (mm92 W4) ?_
    refine ListK.alloc (i := 1) rfl (al92 _) ?_
    refine ListK.store (i := 2) (u := .pointer (some ⟨(W4.heap.size + 1), 0, none⟩)) (u' := .map (some W4.heap.size)) rfl (by simp [hz_a4]) (by simp [hz_a4]) (st92v (m6.cell 0) (m6.frozen 0)) ?_
    refine ListK.done (hK _ _ ?_)
    clear hK K
    have hmap : (W4.alloc (.map #[] 0)).heap[W4.heap.size]? = some (.map #[] 0) := heap_alloc_new W4 _
    have hb5' : Below W4.heap.size W4 (((W4.alloc (.map #[] 0)).alloc (.cells #[.map none] 92)).setCell ⟨W4.heap.size + 1, 0, none⟩ (.map (some W4.heap.size))) := (((Below.refl _ W4).alloc (Nat.le_refl _) _).alloc (by simp) _).setCell (p := ⟨W4.heap.size + 1, 0, none⟩) (by simp) _
    have c65 := m6.set 0 (.map (some W4.heap.size))
    have gn5 : GoneAt (((W4.alloc (.map #[] 0)).alloc (.cells #[.map none] 92)).setCell ⟨W4.heap.size + 1, 0, none⟩ (.map (some W4.heap.size))) W4.heap.size (NoWay t l) :=
      ⟨#[], 0, (Below.heap_setCell _ _ _ _ (by simp)).trans ((Below.heap_alloc _ _ _ (by simp)).trans hmap), fun e he => by simp at he⟩
    have hbk5 := hbk4.keep hb5'
    have w25 := w24.below hb5' w24.lt
    have w36 := w35.below hb5' w35.lt
    have c55 := c54.below hb5' c54.lt
    have hrow5 := hrow4.below hb5'
    have hB5 := hB4.trans (hb5'.mono (by omega))
    have hS5 : (((W4.alloc (.map #[] 0)).alloc (.cells #[.map none] 92)).setCell ⟨W4.heap.size + 1, 0, none⟩ (.map (some W4.heap.size))).heap.size = W4.heap.size + 2 := by simp [World.setCell]
    generalize hM : W4.heap.size = M at *
    generalize ((W4.alloc (.map #[] 0)).alloc (.cells #[.map none] 92)).setCell ⟨M + 1, 0, none⟩ (.map (some M)) = W5 at *
    clear hbk4 w24 w35 c54 hrow4 hB4 hb5' m6 hmap
    generalize hA : Act.put _ _ _ = a5
    have hz_a5 : a5.tmps.size = 29 := by rw [← hA]; simp only [size_put, hz_a4]
    have y1 : a5.eval (.tmp 1) = .pointer (some ⟨h, 0, none⟩) := by rw [← hA]; exact (by simp [x1])
    have y2 : a5.eval (.tmp 2) = .pointer (some ⟨(h + 1), 0, none⟩) := by rw [← hA]; exact (by simp [x2])
    have y3 : a5.eval (.tmp 3) = .pointer (some ⟨(h + 2), 0, none⟩) := by rw [← hA]; exact (by simp [x3])
    have y5 : a5.eval (.tmp 5) = .pointer (some ⟨b5, 0, none⟩) := by rw [← hA]; exact (by simp [x5])
    have y6 : a5.eval (.tmp 6) = .pointer (some ⟨(M + 1), 0, none⟩) := by rw [← hA]; exact (by simp [hz_a4])
    have hd_a5 : a5.defers = [] := by rw [← hA]; simp only [defers_put, hd_a4]
    clear hA
    have m7 := Whole.new W5 93 #[.nilFunc]
    refine wpIn_seq (region_p 1 ?_)
    intro K hK
    refine ListK.alloc (i := 0) rfl (al93 _) ?_
    refine ListK.done (hK _ _ ?_)
    clear hK K
    refine wpIn_seq (region_p 2 ?_)
    intro K hK
    refine ListK.mkF (i := 0) (vs := capsZ (h + 1) (h + 2) b5 (M + 1) W5.heap.size) rfl (by simp [hz_a5, y2, y3, y5, y6]) ?_
    refine ListK.store (i := 1) (u := .pointer (some ⟨W5.heap.size, 0, none⟩)) (u' := .func (.func 54) #[] (capsZ (h + 1) (h + 2) b5 (M + 1) W5.heap.size)) rfl (by simp [hz_a5]) (by simp [hz_a5]) (st93v (m7.cell 0) (m7.frozen 0)) ?_
    refine ListK.done (hK _ _ ?_)
    clear hK K
    have hb6 : Below W5.heap.size W5 ((W5.alloc (.cells #[.nilFunc] 93)).setCell ⟨W5.heap.size, 0, none⟩ (.func (.func 54) #[] (capsZ (h + 1) (h + 2) b5 (M + 1) W5.heap.size))) := ((Below.refl _ W5).alloc (Nat.le_refl _) _).setCell (p := ⟨W5.heap.size, 0, none⟩) (by simp) _
    have c76 := m7.set 0 (.func (.func 54) #[] (capsZ (h + 1) (h + 2) b5 (M + 1) W5.heap.size))
    have hbk6 := hbk5.keep hb6
    have w26 := w25.below hb6 w25.lt
    have w37 := w36.below hb6 w36.lt
    have c56 := c55.below hb6 c55.lt
    have c66 := c65.below hb6 c65.lt
    have hrow6 := hrow5.below hb6
    have hB6 := hB5.trans (hb6.mono (by omega))
    have gn6 := gn5.keep (hb6.block M (by omega))
    have hS6 : ((W5.alloc (.cells #[.nilFunc] 93)).setCell ⟨W5.heap.size, 0, none⟩ (.func (.func 54) #[] (capsZ (h + 1) (h + 2) b5 (M + 1) W5.heap.size))).heap.size = W5.heap.size + 1 := by simp [World.setCell]
    generalize hb7 : W5.heap.size = b7 at *
    generalize (W5.alloc (.cells #[.nilFunc] 93)).setCell ⟨b7, 0, none⟩ (.func (.func 54) #[] (capsZ (h + 1) (h + 2) b5 (M + 1) b7)) = W6 at *
    generalize hA : Act.put _ _ _ = a6
    have hz_a6 : a6.tmps.size = 29 := by rw [← hA]; simp only [size_put, hz_a5]
    have z2 : a6.eval (.tmp 2) = .pointer (some ⟨(h + 1), 0, none⟩) := by rw [← hA]; exact (by simp [y2])
    have z3 : a6.eval (.tmp 3) = .pointer (some ⟨(h + 2), 0, none⟩) := by rw [← hA]; exact (by simp [y3])
    have z7 : a6.eval (.tmp 7) = .pointer (some ⟨b7, 0, none⟩) := by rw [← hA]; exact (by simp [hz_a5])
    have hd_a6 : a6.defers = [] := by rw [← hA]; simp only [defers_put, hd_a5]
    clear hA
    refine tailY_wp (H := b7 + 1) (B := h) (b2 := h + 1) (b3 := h + 2) (b5 := b5) (b6 := M + 1) (b7 := b7) (M := M) (gd := gd) (cd := l.length) hv hE (fits_way hv hf) ⟨by omega, by omega, by omega, by omega, by omega⟩ ⟨hbk6, c56, c66, c76, w37, gn6, by omega⟩ hrow6 (by omega) (Nat.le_refl _) w26 (by rw [← hh]; exact hB6) (by omega) (by omega) (by omega) (by omega) hz_a6 hd_a6 z2 z3 z7
  · skip
    refine wpIn_seq (region_p 8 ?_)
    intro K hK
    refine ListK.load (i := 0) (p := ⟨h, 0, none⟩) (v := .agg #[.int .i64 o, .int .i64 t, .slice A l.length c]) rfl (by simp [u1]) (ld31' ⟨wb.cell 0, wb.cell 1, wb.cell 2⟩) ?_
    refine ListK.call (i := 1) (vs := #[.agg #[.int .i64 o, .int .i64 t, .slice A l.length c], .bool true]) rfl (enters_of Try.func53 (by kernel_rfl) rfl) (by simp [hz_a1]) (((tried_err o t A l c true W1 hl hs1 hE)).mono ?_)
    rintro _ W2 ⟨rfl, hb2⟩
    refine ⟨_, rfl, ?_⟩
    refine ListK.move (i := 2) (v := .tuple #[.pointer none, .int .i64 (triedE o t l true)]) rfl (by simp [hz_a1]) ?_
    refine ListK.extract (i := 3) (u := .tuple #[.pointer none, .int .i64 (triedE o t l true)]) (v := .pointer none) rfl (by simp [hz_a1]) (ex0 _ _ _) ?_
    refine ListK.extract (i := 4) (u := .tuple #[.pointer none, .int .i64 (triedE o t l true)]) (v := .int .i64 (triedE o t l true)) rfl (by simp [hz_a1]) (ex1 _ _ _) ?_
    refine ListK.alloc (i := 5) rfl (al89 W2) ?_
    refine ListK.store (i := 6) (u := .pointer (some ⟨W2.heap.size, 0, none⟩)) (u' := .pointer none) rfl (by simp [hz_a1]) (by simp [hz_a1]) (sa89 W2 _) ?_
    refine ListK.assign (i := 7) (v := .int .i64 (triedE o t l true)) rfl (by simp [hz_a1]) ?_
    refine ListK.done (hK _ _ ?_)
    clear hK K
    have hb3 : Below W1.heap.size W1 (W2.alloc (.cells #[.pointer none] 89)) := hb2.alloc hb2.size _
    have w23 := w2.below hb3 w2.lt
    have w33 := w3.below hb3 w3.lt
    have hB3 : Below h W (W2.alloc (.cells #[.pointer none] 89)) := hB1.trans (hb3.mono (by omega))
    generalize W2.alloc (.cells #[.pointer none] 89) = W3 at *
    generalize hA : Act.put _ _ _ = a2
    have hz_a2 : a2.tmps.size = 29 := by rw [← hA]; simp only [size_put, hz_a1]
    have v2 : a2.eval (.tmp 2) = .pointer (some ⟨(h + 1), 0, none⟩) := by rw [← hA]; exact (by simp [u2])
    have v3 : a2.eval (.tmp 3) = .pointer (some ⟨(h + 2), 0, none⟩) := by rw [← hA]; exact (by simp [u3])
    have v4 : a2.eval (.tmp 4) = .int .i64 (triedE o t l true) := by rw [← hA]; exact (by simp [hz_a1])
    have hd_a2 : a2.defers = [] := by rw [← hA]; simp only [defers_put, hd_a1]
    clear hA
    refine wpIn_seq (wpIn_seq (region_p 2 ?_))
    intro K hK
    refine ListK.move (i := 0) (v := .int .i64 (triedE o t l true)) rfl (by simp [v4]) ?_
    refine ListK.bin (i := 1) (u := .int .i64 (triedE o t l true)) (u' := .int .i64 0) (v := .bool true) rfl (by simp [hz_a2]) (by simp) (neq27T hE _) ?_
    refine ListK.done (hK _ _ ?_)
    clear hK K
    refine wpIn_cond (t := true) (by simp [hz_a2]) ?_
    have w24 := w23.set 0 (.slice none 0 0)
    have w34 := w33.far (p := ⟨h + 1, 0, none⟩) (by simp) (.slice none 0 0)
    refine wpIn_seq (region_p 4 ?_)
    intro K hK
    refine ListK.move (i := 0) (v := .int .i64 (triedE o t l true)) rfl (by simp [v4]) ?_
    refine ListK.store (i := 1) (u := .pointer (some ⟨(h + 1), 0, none⟩)) (u' := .slice none 0 0) rfl (by simp [v2]) (by simp) (st25 (w23.cell 0) (w23.frozen 0)) ?_
    refine ListK.store (i := 2) (u := .pointer (some ⟨(h + 2), 0, none⟩)) (u' := .slice none 0 0) rfl (by simp [v3]) (by simp) (st25 (w34.cell 0) (w34.frozen 0)) ?_
    refine ListK.assign (i := 3) (v := .int .i64 (triedE o t l true)) rfl (by simp [hz_a2]) ?_
    refine ListK.done (hK _ _ (wpIn_ret ?_))
    have w25 := w24.far (p := ⟨h + 2, 0, none⟩) (by simp) (.slice none 0 0)
    have w35 := w34.set 0 (.slice none 0 0)
    have hB4 : Below h W ((W3.setCell ⟨h + 1, 0, none⟩ (.slice none 0 0)).setCell ⟨h + 2, 0, none⟩ (.slice none 0 0)) := (hB3.setCell (p := ⟨h + 1, 0, none⟩) (by simp) _).setCell (p := ⟨h + 2, 0, none⟩) (by simp) _
    show bodyPost Try.prog Try.f23 (YP W o t l) Exit.ret _ _
    refine bodyPost_ret (v := .tuple #[.slice none 0 0, .slice none 0 0, .int .i64 (triedE o t l true)]) (res225 (b := h + 1) (b' := h + 2) Try.results23 (by simp [v2]) (by simp [v3]) (by simp [hz_a2]) (w25.cell 0) (w35.cell 0)) (by simp only [defers_put, hd_a2]) ⟨_, _, [], [], rfl, RI.nil _, RI.nil _, ?_, by rw [← hh]; exact hB4⟩
    unfold OrdRes
    rw [if_neg hE]
    exact ⟨rfl, rfl⟩
end Go.Proofs.Ytfcnombmphophaa

namespace Go.Proofs.Ytfcnombmphophaa
open Go.RowKit Go.Shelf
set_option maxHeartbeats 400000 in
theorem between_any (x y : Int) (w : World) : Calls Try.prog 36 #[.int .i64 x, .int .i64 y] w fun e w' => e = .returned (.agg #[.int .i64 x, .int .i64 y]) ∧ Below w.heap.size w w' := by
  go_enter Try.func36, Try.ntmps36
  go_wp2
  exact bodyPost_ret (v := .agg #[.int .i64 x, .int .i64 y]) (by simp [results, Try.results36, go_sem]) rfl ⟨rfl, ((Below.refl _ _).alloc (Nat.le_refl _) _)⟩
theorem res61 {fn : Func} {k b : Nat} {W : World} {tm : Array Value} {s : Sale} (h : fn.results = #[.cell k 61]) (he : tm[k]?.getD undef = .pointer (some ⟨b, 0, none⟩)) (hc : Whole W b 61 (saleC s)) :
    (results fn tm).run Try.prog W = .ok (saleV s) W := by
  have l1 : (Instr.loadAt 61 (.pointer (some ⟨b, 0, none⟩))).run Try.prog W = .ok (saleV s) W := ld61 (hc.cell 0) (hc.cell 1) (hc.cell 2) (hc.cell 3) (hc.cell 4)
  have h0 := hc.cell 0
  have h1 := hc.cell 1
  have h2 := hc.cell 2
  have h3 := hc.cell 3
  have h4 := hc.cell 4
  simp only [results, h]
  simp [he]
  go_simp
set_option maxHeartbeats 400000 in
theorem mksale_any (a b m x y : Int) (w : World) : Calls Try.prog 37 #[.int .i64 a, .int .i64 b, .int .i64 m, .int .i64 x, .int .i64 y] w fun e w' => e = .returned (saleV ⟨a, b, m, x, y⟩) ∧ Below w.heap.size w w' := by
  go_enter Try.func37, Try.ntmps37
  go_wp2_with fail
  refine (between_any _ _ _).mono ?_
  rintro e w1 ⟨rfl, hb⟩
  have hz : w.heap.size < w1.heap.size := by have := hb.size; simp at this; omega
  have hc : ∀ i, w1.cell? ⟨w.heap.size, i, none⟩ = _ := fun i => hb.cell (p := ⟨w.heap.size, i, none⟩) (by simp)
  have hf : ∀ i, w1.frozen? ⟨w.heap.size, i, none⟩ = _ := fun i => hb.frozen (p := ⟨w.heap.size, i, none⟩) (by simp)
  have hw := (Whole.new w 61 #[.int .i64 0, .int .i64 0, .int .i64 0, .int .i64 0, .int .i64 0]).below hb (by simp)
  have HW := Lib.hid hw
  have Hb := Lib.hid hb
  clear hb hw
  go_wp2_with fail
  have h5 : Whole _ w.heap.size 61 (saleC ⟨a, b, m, x, y⟩) := ((((HW.out.set 0 (.int .i64 a)).set 1 (.int .i64 b)).set 2 (.int .i64 m)).set 3 (.int .i64 x)).set 4 (.int .i64 y)
  refine bodyPost_ret (v := saleV ⟨a, b, m, x, y⟩) (res61 Try.results37 rfl h5) rfl ⟨rfl, ?_⟩
  exact (((((((Below.refl _ _).alloc (Nat.le_refl _) _).trans (Hb.out.mono (by simp))).setCell (p := ⟨w.heap.size, 0, none⟩) (Nat.le_refl _) _).setCell (p := ⟨w.heap.size, 1, none⟩) (Nat.le_refl _) _).setCell (p := ⟨w.heap.size, 2, none⟩) (Nat.le_refl _) _).setCell (p := ⟨w.heap.size, 3, none⟩) (Nat.le_refl _) _).setCell (p := ⟨w.heap.size, 4, none⟩) (Nat.le_refl _) _

/-- The document's example. -/
def fourL : List Sale := [⟨0, 1, 6, 1, 3⟩, ⟨1, 2, 4, 2, 2⟩, ⟨0, 3, 4, 2, 5⟩, ⟨2, 3, 3, 4, 6⟩]
theorem bs29_4 (s0 s1 s2 s3 : Sale) (w : World) : (Instr.buildSlice 29 4 #[(0, saleV s0), (1, saleV s1), (2, saleV s2), (3, saleV s3)]).run Try.prog w = .ok (.slice (some ⟨w.heap.size, 0, none⟩) 4 4) (w.alloc (.cells (salesL [s0, s1, s2, s3]).toArray 61)) := by
  kernel_rfl
section
variable {ops : Array Oper} {K : Act → World → Prop} {k i d : Nat} {a : Act} {w : World} {ty : TypeId} {pos : String} {aft : Array Edge}
theorem ListK.app29 {s x : Operand} (hi : ops[i]? = some ⟨some d, .call { callee := .builtin .append, args := #[s, x], argTypes := #[29, 29] }, ty, pos, aft, none⟩)
    {base n : Nat} {v : Value} {xs : List Value} (hown : w.ownsRow base 61 5 v n xs) (hs : a.eval s = v) (ad : Addr) (m c : Nat) (news : List Value) (hx : a.eval x = .slice (some ad) m c) (hl : news.length = m * 5) (hm : 0 < m)
    (hnews : ∀ j u, news[j]? = some u → w.cell? (ad.add j) = some u) (h1 : ∀ u ∈ news, u.oneCell' = true) (h63 : n + m ≤ maxLen) (hbytes : (n + m) * 40 ≤ 140737488355328) (hbase : base ≤ w.heap.size)
    (h : ∀ g cap w', w'.ownsRow base 61 5 (.slice (some ⟨g, 0, none⟩) (n + m) cap) (n + m) (xs ++ news) → w.grownBy w' v.ownBlock → (v.ownBlock = some g ∨ g = w.heap.size) → ListK Try.prog ops K k (i + 1) (a.put (some d) (.slice (some ⟨g, 0, none⟩) (n + m) cap)) w') :
    ListK Try.prog ops K (k + 1) i a w := by
  obtain ⟨i0, hi0, hi1, hi2, hi3⟩ := info_parts Try.info61
  obtain ⟨g, cap, w', hr, h2, h3, h4, h5⟩ := run_append_lies (P := Try.prog) w 29 ty base 61 i0 _ 5 40 Try.underlying29 hi0 hi1 hi2 hi3 rfl (by omega) v n xs hown ad m c news (by simpa using hl) hnews h1 hm h63 hbytes hbase w.heap.size rfl
  refine ListK.val hi rfl ?_ (h g cap w' h2 h3 h4)
  simp [execOp, resolve, invoke, builtin, hs, hx, hr]
theorem ListK.app29nil {s x : Operand} (hi : ops[i]? = some ⟨some d, .call { callee := .builtin .append, args := #[s, x], argTypes := #[29, 29] }, ty, pos, aft, none⟩)
    {g n c c' : Nat} (hs : a.eval s = .slice (some ⟨g, 0, none⟩) n c) (hx : a.eval x = .slice none 0 c') (hnc : n ≤ c)
    (h : ListK Try.prog ops K k (i + 1) (a.put (some d) (.slice (some ⟨g, 0, none⟩) n c)) w) : ListK Try.prog ops K (k + 1) i a w := by
  obtain ⟨i0, hi0, hi1, hi2, hi3⟩ := info_parts Try.info61
  refine ListK.val hi rfl ?_ h
  have : (Builtin.append_ #[29, 29] ty #[.slice (some ⟨g, 0, none⟩) n c, .slice none 0 c']).run Try.prog w = .ok (.slice (some ⟨g, 0, none⟩) n c) w := by
    simp [Builtin.append_, run_underlying Try.underlying29, sizeOf, typeInfo, hi0, Builtin.lenOf, Builtin.firstCells, hnc, storeCells]
  simp [execOp, resolve, invoke, builtin, hs, hx, this]
end
theorem bd31c (A : Option Addr) (n c : Nat) (w : World) : (Instr.build 31 #[(0, .int .i64 4), (1, .int .i64 10), (2, .slice A n c)]).run Try.prog w = .ok (.agg #[.int .i64 4, .int .i64 10, .slice A n c]) w := by
  go_simp
noncomputable def opsQ0 : Array Oper := (Try.f35.body.bind (regionOf 0)).getD #[]
noncomputable def opsQ1 : Array Oper := (Try.f35.body.bind (regionOf 1)).getD #[]
noncomputable def code35 : Code := .seq (.region 0 opsQ0 false) (.seq (.region 1 opsQ1 false) .ret)
theorem body35 : Try.f35.body = some code35 := by kernel_rfl
/-- What four gives. -/
abbrev QP (W : World) (L : List Sale) : Ending → World → Prop := fun e w' => ∃ A c, e = .returned (.agg #[.int .i64 4, .int .i64 10, .slice A L.length c]) ∧ SalesAt w' w'.heap.size A L ∧ Below W.heap.size W w'
theorem sales_owned (W : World) (l : List Sale) (hl : l.length ≤ 1000) : (W.alloc (.cells (salesL l).toArray 61)).ownsRow W.heap.size 61 5 (.slice (some ⟨W.heap.size, 0, none⟩) l.length l.length) l.length (salesL l) := by
  have hlen : (salesL l).length = l.length * 5 := by
    have : ∀ l : List Sale, (salesL l).length = l.length * 5 := by
      intro l
      induction l with
      | nil => rfl
      | cons x l ih =>
        show (saleL x ++ salesL l).length = _
        rw [List.length_append, ih]
        simp [saleL]
        omega
    exact this l
  have := World.ownsRow_lit (base := W.heap.size) (e := 61) (size := 5) W (salesL l).toArray l.length (Nat.le_refl _) (by unfold maxLen; omega) (by simpa using hlen)
  simpa using this
theorem sales_one {l : List Sale} {u : Value} (h : u ∈ salesL l) : u.oneCell' = true := by
  obtain ⟨s, _, hs⟩ := List.mem_flatMap.1 h
  simp only [saleL, List.mem_cons, List.not_mem_nil, or_false] at hs
  rcases hs with rfl | rfl | rfl | rfl | rfl <;> rfl

theorem news_of {W : World} {b : Nat} {s : Sale} (h : Whole W b 61 (saleC s)) : ∀ j u, (saleL s)[j]? = some u → W.cell? ((⟨b, 0, none⟩ : Addr).add j) = some u := by
  intro j u hu
  have hc := h.cell j
  have h5 : j = 0 ∨ j = 1 ∨ j = 2 ∨ j = 3 ∨ j = 4 := by
    have := (List.getElem?_eq_some_iff.1 hu).1
    simp [saleL] at this
    omega
  rcases h5 with rfl | rfl | rfl | rfl | rfl <;> (simp [saleL] at hu; subst hu; simpa [Addr.add] using hc)
set_option maxRecDepth 10000 in
set_option maxHeartbeats 1000000 in
theorem four_gen (more : Value) (m : List Sale) (W : World) (hm : (m = [] ∧ more = .slice none 0 0) ∨ (∃ s b, m = [s] ∧ more = .slice (some ⟨b, 0, none⟩) 1 1 ∧ Whole W b 61 (saleC s))) :
    Calls Try.prog 35 #[more] W (QP W (fourL ++ m)) := by
  refine (callsIn_wide (n := 5)).1 (callsIn_of_wp Try.func35 body35 trivial ?_ rfl)
  obtain ⟨a, ha⟩ : ∃ a : Act, a = { tmps := #[more] ++ Array.replicate (Try.f35.ntmps - (#[more] : Array Value).size) undef, defers := [] } := ⟨_, rfl⟩
  have hsz : a.tmps.size = 11 := by rw [ha]; simp [Try.ntmps35]
  have t0 : a.eval (.tmp 0) = more := by rw [ha]; simp [Act.eval]
  have hdf : a.defers = [] := by rw [ha]
  rw [← ha]
  clear ha
  unfold code35
  refine wpIn_seq (region_p 1 ?_)
  intro K hK
  refine ListK.alloc (i := 0) rfl (al31 W) ?_
  refine ListK.done (hK _ _ ?_)
  clear hK K
  have wb := Whole.new W 31 #[.int .i64 0, .int .i64 0, .slice none 0 0]
  have hB1 : Below W.heap.size W (W.alloc (.cells #[.int .i64 0, .int .i64 0, .slice none 0 0] 31)) := (Below.refl _ W).alloc (Nat.le_refl _) _
  generalize hh : W.heap.size = h at *
  generalize W.alloc (.cells #[.int .i64 0, .int .i64 0, .slice none 0 0] 31) = W1 at *
  generalize hA : Act.put _ _ _ = a1
  have hz_a1 : a1.tmps.size = 11 := by rw [← hA]; simp only [size_put, hsz]
  have u0 : a1.eval (.tmp 0) = more := by rw [← hA]; exact (by simp [t0])
  have u2 : a1.eval (.tmp 2) = .pointer (some ⟨h, 0, none⟩) := by rw [← hA]; exact (by simp [hsz])
  have hd_a1 : a1.defers = [] := by rw [← hA]; simp only [defers_put, hdf]
  clear hA
  have hS1 := wb.lt
  have hst : ∀ (A : Option Addr) (n c : Nat) (W6 : World), Whole W6 h 31 #[.int .i64 0, .int .i64 0, .slice none 0 0] → SalesAt W6 W6.heap.size A (fourL ++ m) → n = (fourL ++ m).length → Below h W W6 → ∀ a' : Act, a'.defers = [] → a'.eval (.tmp 2) = .pointer (some ⟨h, 0, none⟩) →
      bodyPost Try.prog Try.f35 (QP W (fourL ++ m)) .ret a' (((W6.setCell ⟨h, 0, none⟩ (.int .i64 4)).setCell ⟨h, 1, none⟩ (.int .i64 10)).setCell ⟨h, 2, none⟩ (.slice A n c)) := by
    intro A n c W6 h6 hs hn hb a' hd' h2
    have h7 := ((h6.set 0 (.int .i64 4)).set 1 (.int .i64 10)).set 2 (.slice A n c)
    have e7 : Else (fun k => k = h) W6 (((W6.setCell ⟨h, 0, none⟩ (.int .i64 4)).setCell ⟨h, 1, none⟩ (.int .i64 10)).setCell ⟨h, 2, none⟩ (.slice A n c)) :=
      (((Else.refl (fun k => k = h) W6).setCell (p := ⟨h, 0, none⟩) (.inl rfl) _).setCell (p := ⟨h, 1, none⟩) (.inl rfl) _).setCell (p := ⟨h, 2, none⟩) (.inl rfl) _
    refine bodyPost_ret (v := .agg #[.int .i64 4, .int .i64 10, .slice A n c]) (res31 Try.results35 h2 (h7.cell 0) (h7.cell 1) (h7.cell 2)) hd' ⟨A, c, by rw [hn], ?_, by rw [hh]; exact hb.trans (e7.below (by have := hb.size; omega) (fun k hk e => by have : k = h := e; omega))⟩
    intro k s hks
    obtain ⟨b, off, e1, e2, e3⟩ := hs k s hks
    have hbh : b ≠ h := by
      intro e
      subst e
      have := h6.cell (off + k * 5 + 3)
      obtain ⟨_, _, _, q, _⟩ := e3
      rw [q] at this
      simp at this
    exact ⟨b, off, e1, Nat.lt_of_lt_of_le e2 e7.size, e3.keep (fun o => World.cell?_of_block (e7.block b e2 hbh))⟩
  rcases hm with ⟨rfl, rfl⟩ | ⟨s, bm, rfl, rfl, hwm⟩
  · skip
    have hmk : ∀ W5 : World, Below W1.heap.size W1 W5 → Whole (W5.alloc (.cells (salesL fourL).toArray 61)) h 31 #[.int .i64 0, .int .i64 0, .slice none 0 0] ∧ SalesAt (W5.alloc (.cells (salesL fourL).toArray 61)) (W5.alloc (.cells (salesL fourL).toArray 61)).heap.size (some ⟨W5.heap.size, 0, none⟩) (fourL ++ []) ∧ Below h W (W5.alloc (.cells (salesL fourL).toArray 61)) := by
      intro W5 hb5
      refine ⟨(wb.below hb5 wb.lt).alloc _, ?_, (hB1.trans (hb5.mono (by omega))).alloc (by have := hb5.size; omega) _⟩
      obtain ⟨A, c, e, hs⟩ := sales_of_owns (sales_owned W5 fourL (by decide))
      cases e
      simpa using hs
    refine wpIn_seq (region_p 9 ?_)
    intro K hK
    refine ListK.call (i := 0) (vs := #[.int .i64 0, .int .i64 1, .int .i64 6, .int .i64 1, .int .i64 3]) rfl (enters_of Try.func37 (by kernel_rfl) rfl) (by simp) (((mksale_any _ _ _ _ _ _)).mono ?_)
    rintro _ W2 ⟨rfl, hb2⟩
    refine ⟨_, rfl, ?_⟩
    refine ListK.call (i := 1) (vs := #[.int .i64 1, .int .i64 2, .int .i64 4, .int .i64 2, .int .i64 2]) rfl (enters_of Try.func37 (by kernel_rfl) rfl) (by simp) (((mksale_any _ _ _ _ _ _)).mono ?_)
    rintro _ W3 ⟨rfl, hb3⟩
    refine ⟨_, rfl, ?_⟩
    refine ListK.call (i := 2) (vs := #[.int .i64 0, .int .i64 3, .int .i64 4, .int .i64 2, .int .i64 5]) rfl (enters_of Try.func37 (by kernel_rfl) rfl) (by simp) (((mksale_any _ _ _ _ _ _)).mono ?_)
    rintro _ W4 ⟨rfl, hb4⟩
    refine ⟨_, rfl, ?_⟩
    refine ListK.call (i := 3) (vs := #[.int .i64 2, .int .i64 3, .int .i64 3, .int .i64 4, .int .i64 6]) rfl (enters_of Try.func37 (by kernel_rfl) rfl) (by simp) (((mksale_any _ _ _ _ _ _)).mono ?_)
    rintro _ W5 ⟨rfl, hb5⟩
    have hB5 : Below W1.heap.size W1 W5 := ((hb2.trans (hb3.mono hb2.size)).trans (hb4.mono (Nat.le_trans hb2.size hb3.size))).trans (hb5.mono (Nat.le_trans hb2.size (Nat.le_trans hb3.size hb4.size)))
    obtain ⟨wb6, hs6, hB6⟩ := hmk W5 hB5
    refine ⟨_, rfl, ?_⟩
    refine ListK.bsl (i := 4) (ps := #[(0, saleV ⟨0, 1, 6, 1, 3⟩), (1, saleV ⟨1, 2, 4, 2, 2⟩), (2, saleV ⟨0, 3, 4, 2, 5⟩), (3, saleV ⟨2, 3, 3, 4, 6⟩)]) (v := .slice (some ⟨W5.heap.size, 0, none⟩) 4 4) rfl (by simp [hz_a1]) (bs29_4 _ _ _ _ W5) ?_
    refine ListK.move (i := 5) (v := .slice none 0 0) rfl (by simp [u0]) ?_
    refine ListK.app29nil (i := 6) (g := W5.heap.size) (n := 4) (c := 4) (c' := 0) rfl (by simp [hz_a1]) (by simp [hz_a1]) (Nat.le_refl _) ?_
    refine ListK.bld (i := 7) (ps := #[(0, .int .i64 4), (1, .int .i64 10), (2, .slice (some ⟨W5.heap.size, 0, none⟩) 4 4)]) (v := .agg #[.int .i64 4, .int .i64 10, .slice (some ⟨W5.heap.size, 0, none⟩) 4 4]) rfl (by simp [hz_a1]) (bd31c _ _ _ _) ?_
    refine ListK.store (i := 8) (u := .pointer (some ⟨h, 0, none⟩)) (u' := .agg #[.int .i64 4, .int .i64 10, .slice (some ⟨W5.heap.size, 0, none⟩) 4 4]) rfl (by simp [u2]) (by simp [hz_a1]) (st31 (wb6.cell 0) (wb6.cell 1) (wb6.cell 2) (wb6.frozen 0) (wb6.frozen 1) (wb6.frozen 2)) ?_
    refine ListK.done (hK _ _ (wpIn_ret ?_))
    exact hst _ _ _ _ wb6 hs6 rfl hB6 _ (by simp only [defers_put, hd_a1]) (by simp [u2])
  · skip
    have hbm : bm < h := by rw [← hh]; exact hwm.lt
    have hmk : ∀ W5 : World, Below W1.heap.size W1 W5 → Whole (W5.alloc (.cells (salesL fourL).toArray 61)) h 31 #[.int .i64 0, .int .i64 0, .slice none 0 0] ∧ (W5.alloc (.cells (salesL fourL).toArray 61)).ownsRow W5.heap.size 61 5 (.slice (some ⟨W5.heap.size, 0, none⟩) 4 4) 4 (salesL fourL) ∧ Below h W (W5.alloc (.cells (salesL fourL).toArray 61)) ∧ Whole (W5.alloc (.cells (salesL fourL).toArray 61)) bm 61 (saleC s) ∧ h < W5.heap.size := by
      intro W5 hb5
      have h1 : Below h W W5 := hB1.trans (hb5.mono (by omega))
      exact ⟨(wb.below hb5 wb.lt).alloc _, sales_owned W5 fourL (by decide), h1.alloc (by have := hb5.size; omega) _, (hwm.below h1 hbm).alloc _, by have := hb5.size; omega⟩
    refine wpIn_seq (region_p 9 ?_)
    intro K hK
    refine ListK.call (i := 0) (vs := #[.int .i64 0, .int .i64 1, .int .i64 6, .int .i64 1, .int .i64 3]) rfl (enters_of Try.func37 (by kernel_rfl) rfl) (by simp) (((mksale_any _ _ _ _ _ _)).mono ?_)
    rintro _ W2 ⟨rfl, hb2⟩
    refine ⟨_, rfl, ?_⟩
    refine ListK.call (i := 1) (vs := #[.int .i64 1, .int .i64 2, .int .i64 4, .int .i64 2, .int .i64 2]) rfl (enters_of Try.func37 (by kernel_rfl) rfl) (by simp) (((mksale_any _ _ _ _ _ _)).mono ?_)
    rintro _ W3 ⟨rfl, hb3⟩
    refine ⟨_, rfl, ?_⟩
    refine ListK.call (i := 2) (vs := #[.int .i64 0, .int .i64 3, .int .i64 4, .int .i64 2, .int .i64 5]) rfl (enters_of Try.func37 (by kernel_rfl) rfl) (by simp) (((mksale_any _ _ _ _ _ _)).mono ?_)
    rintro _ W4 ⟨rfl, hb4⟩
    refine ⟨_, rfl, ?_⟩
    refine ListK.call (i := 3) (vs := #[.int .i64 2, .int .i64 3, .int .i64 3, .int .i64 4, .int .i64 6]) rfl (enters_of Try.func37 (by kernel_rfl) rfl) (by simp) (((mksale_any _ _ _ _ _ _)).mono ?_)
    rintro _ W5 ⟨rfl, hb5⟩
    have hB5 : Below W1.heap.size W1 W5 := ((hb2.trans (hb3.mono hb2.size)).trans (hb4.mono (Nat.le_trans hb2.size hb3.size))).trans (hb5.mono (Nat.le_trans hb2.size (Nat.le_trans hb3.size hb4.size)))
    obtain ⟨wb6, own6, hB6, hw6, hlt6⟩ := hmk W5 hB5
    refine ⟨_, rfl, ?_⟩
    refine ListK.bsl (i := 4) (ps := #[(0, saleV ⟨0, 1, 6, 1, 3⟩), (1, saleV ⟨1, 2, 4, 2, 2⟩), (2, saleV ⟨0, 3, 4, 2, 5⟩), (3, saleV ⟨2, 3, 3, 4, 6⟩)]) (v := .slice (some ⟨W5.heap.size, 0, none⟩) 4 4) rfl (by simp [hz_a1]) (bs29_4 _ _ _ _ W5) ?_
    refine ListK.move (i := 5) (v := .slice (some ⟨bm, 0, none⟩) 1 1) rfl (by simp [u0]) ?_
    refine ListK.app29 (i := 6) (v := .slice (some ⟨W5.heap.size, 0, none⟩) 4 4) (n := 4) rfl own6 (by simp [hz_a1]) ⟨bm, 0, none⟩ 1 1 (saleL s) (by simp [hz_a1]) rfl (by omega) (news_of hw6) (fun u hu => sales_one (l := [s]) (by simpa [salesL] using hu)) (by unfold maxLen; omega) (by omega) (by simp) ?_
    intro g cap W7 hown hgr hat
    have hne : ∀ k, k < W5.heap.size → ¬ (some k = (Value.slice (some ⟨W5.heap.size, 0, none⟩) 4 4).ownBlock) := fun k hk e => by simp [Value.ownBlock] at e; omega
    have e7 := Else.of_grown hgr
    have hS6 : h ≤ (W5.alloc (.cells (salesL fourL).toArray 61)).heap.size := by simp; omega
    have wb7 := e7.whole (hne h hlt6) wb6
    have hB7 : Below h W W7 := hB6.trans (e7.below hS6 (fun k hk => hne k (by omega)))
    refine ListK.bld (i := 7) (ps := #[(0, .int .i64 4), (1, .int .i64 10), (2, .slice (some ⟨g, 0, none⟩) 5 cap)]) (v := .agg #[.int .i64 4, .int .i64 10, .slice (some ⟨g, 0, none⟩) 5 cap]) rfl (by simp [hz_a1]) (bd31c _ _ _ _) ?_
    refine ListK.store (i := 8) (u := .pointer (some ⟨h, 0, none⟩)) (u' := .agg #[.int .i64 4, .int .i64 10, .slice (some ⟨g, 0, none⟩) 5 cap]) rfl (by simp [u2]) (by simp [hz_a1]) (st31 (wb7.cell 0) (wb7.cell 1) (wb7.cell 2) (wb7.frozen 0) (wb7.frozen 1) (wb7.frozen 2)) ?_
    refine ListK.done (hK _ _ (wpIn_ret ?_))
    refine hst _ _ _ _ wb7 ?_ rfl hB7 _ (by simp only [defers_put, hd_a1]) (by simp [u2])
    have hown' : W7.ownsRow W5.heap.size 61 5 (.slice (some ⟨g, 0, none⟩) 5 cap) (fourL ++ [s]).length (salesL (fourL ++ [s])) := by
      rw [salesL_app]
      exact hown
    obtain ⟨A, c, e, hs⟩ := sales_of_owns hown'
    cases e
    exact hs
end Go.Proofs.Ytfcnombmphophaa
