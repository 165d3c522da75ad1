/- Texts for the laws of package recall, part 7: contracts of the program's functions, each for every input that its words name. -/
import Derived.Test.YtfcnombmphophaaP6
import Derived.Test.YtfcnombmphophaaP3
import Derived.OpenShut
import Derived.ChangeBook
import Derived.ChangeStays
import Derived.Deep.Frames
import Derived.ChangeOld

set_option linter.unusedVariables false

namespace Go.Proofs.Ytfcnombmphophaa
open Go.RowKit Go.Shelf
theorem ListK.passU {P : Program} {ops : Array Oper} {K : Act → World → Prop} {k i j d : Nat} {a : Act} {w : World} {ty : TypeId} {pos : String} {aft : Array Edge} {op : Op} {b : Bool} {e : Nat} (hi : ops[i]? = some ⟨some d, op, ty, pos, aft, some (j, b)⟩) (hj : (ops[j]?).bind (·.dst) = some e) (he : a.eval (.tmp e) = undef)
    (h : ListK P ops K k (i + 1) (a.put (some d) undef) w) : ListK P ops K (k + 1) i a w := ListK.passW hi (wanted_undef hj he) h
noncomputable def opsOd0 : Array Oper := (Try.f4.body.bind (regionOf 0)).getD #[]
noncomputable def opsOd1 : Array Oper := (Try.f4.body.bind (regionOf 1)).getD #[]
noncomputable def opsOd2 : Array Oper := (Try.f4.body.bind (regionOf 2)).getD #[]
noncomputable def opsOd3 : Array Oper := (Try.f4.body.bind (regionOf 3)).getD #[]
noncomputable def opsOd4 : Array Oper := (Try.f4.body.bind (regionOf 4)).getD #[]
noncomputable def opsOd5 : Array Oper := (Try.f4.body.bind (regionOf 5)).getD #[]
noncomputable def opsOd6 : Array Oper := (Try.f4.body.bind (regionOf 6)).getD #[]
noncomputable def opsOd7 : Array Oper := (Try.f4.body.bind (regionOf 7)).getD #[]
noncomputable def opsOd8 : Array Oper := (Try.f4.body.bind (regionOf 8)).getD #[]
noncomputable def opsOd9 : Array Oper := (Try.f4.body.bind (regionOf 9)).getD #[]
noncomputable def opsOd10 : Array Oper := (Try.f4.body.bind (regionOf 10)).getD #[]
noncomputable def opsOd11 : Array Oper := (Try.f4.body.bind (regionOf 11)).getD #[]
noncomputable def opsOd12 : Array Oper := (Try.f4.body.bind (regionOf 12)).getD #[]
noncomputable def code4 : Code := .seq (.region 0 opsOd0 false) (.seq (.seq (.region 1 opsOd1 false) (.cond (.tmp 23) (.seq (.region 2 opsOd2 false) .ret) .skip)) (.seq (.region 3 opsOd3 false) (.seq (.region 4 opsOd4 false) (.seq (.seq (.region 5 opsOd5 false) (.seq (.region 6 opsOd6 false) (.cond (.tmp 41) (.seq (.region 7 opsOd7 false) .ret) .skip))) (.seq (.seq (.region 8 opsOd8 false) (.cond (.tmp 72) (.seq (.region 9 opsOd9 false) .ret) .skip)) (.seq (.seq (.region 10 opsOd10 false) (.cond (.tmp 75) (.seq (.region 11 opsOd11 false) .ret) .skip)) (.seq (.region 12 opsOd12 false) .ret)))))))
theorem body4o : Try.f4.body = some code4 := by kernel_rfl
theorem tried_fault {o t : Int} {l : List Sale} (h : fault o t l ≠ 0) : triedE o t l true = fault o t l := by simp [triedE, h]
theorem tried_no {o t : Int} {l : List Sale} (h : fault o t l = 0) (hf : fitsB t l = false) : triedE o t l true = 9 := by simp [triedE, h, hf]
theorem tried_yes {o t : Int} {l : List Sale} (h : fault o t l = 0) (hf : fitsB t l = true) : triedE o t l true = 0 := by simp [triedE, h, hf]
theorem neq27T' {x y : Operand} {m n : Int} (h : m ≠ n) (w : World) : (do eqGuard .neq 27 x y (.int .i64 m) (.int .i64 n); binOp .neq 27 (.int .i64 m) (.int .i64 n) : Sem Value).run Try.prog w = .ok (.bool true) w := by
  rw [neq27]
  simp [h]
theorem neq27F' {x y : Operand} {m n : Int} (h : m = n) (w : World) : (do eqGuard .neq 27 x y (.int .i64 m) (.int .i64 n); binOp .neq 27 (.int .i64 m) (.int .i64 n) : Sem Value).run Try.prog w = .ok (.bool false) w := by
  rw [neq27]
  simp [h]
theorem ord_none {o t : Int} {l : List Sale} {xs ds : List Int} (h : OrdRes o t l xs ds) (h0 : triedE o t l true ≠ 0) : xs.length = 0 ∧ ds.length = 0 := by
  unfold OrdRes at h
  rw [if_neg h0] at h
  rw [h.1, h.2]
  exact ⟨rfl, rfl⟩
theorem ord_truth {o t : Int} {l : List Sale} {xs ds : List Int} (h : OrdRes o t l xs ds) (h0 : fault o t l = 0) (hf : fitsB t l = true) : truthB t l xs ds = true ∧ xs.length = l.length ∧ ds.length = l.length := by
  have hp := order_prove (tried_yes h0 hf) h
  have ht := hp
  rw [truth_prove h0] at ht
  refine ⟨ht, ?_⟩
  unfold truthB at ht
  simp only [Bool.and_eq_true, decide_eq_true_eq] at ht
  exact ⟨ht.1, ht.2.1⟩
set_option maxRecDepth 10000 in
set_option maxHeartbeats 4000000 in
theorem orders_any (o t : Int) (A : Option Addr) (l : List Sale) (c : Nat) (W : World) (hs : SalesAt W W.heap.size A l) (law1 : fault o t l = 0 → blameL t l = fewestR t l) (law2 : fault o t l = 0 → fitsB t l = canGo t l l.length [] 0) :
    Calls Try.prog 4 #[.agg #[.int .i64 o, .int .i64 t, .slice A l.length c]] W (TP W true) := by
  refine (callsIn_wide (n := 5)).1 (callsIn_of_wp Try.func4 body4o trivial ?_ rfl)
  obtain ⟨a, ha⟩ : ∃ a : Act, a = { tmps := #[.agg #[.int .i64 o, .int .i64 t, .slice A l.length c]] ++ Array.replicate (Try.f4.ntmps - (#[.agg #[.int .i64 o, .int .i64 t, .slice A l.length c]] : Array Value).size) undef, defers := [] } := ⟨_, rfl⟩
  have hsz : a.tmps.size = 100 := by rw [ha]; simp [Try.ntmps4]
  have t0 : a.eval (.tmp 0) = .agg #[.int .i64 o, .int .i64 t, .slice A l.length c] := by rw [ha]; simp [Act.eval]
  have hdf : a.defers = [] := by rw [ha]
  rw [← ha]
  clear ha
  have hret : ∀ (a' : Act) (W' : World), a'.defers = [] → a'.eval (.tmp 2) = .bool true → Below W.heap.size W W' → bodyPost Try.prog Try.f4 (TP W true) .ret a' W' := fun a' W' hd h4 hb =>
    bodyPost_ret (v := .bool true) (res1 Try.results4 h4) hd ⟨rfl, hb⟩
  unfold code4
  refine wpIn_seq (region_p 2 ?_)
  intro K hK
  refine ListK.box (i := 0) (u := .agg #[.int .i64 o, .int .i64 t, .slice A l.length c]) rfl (by simp [t0]) (bx24 W _ _ _ _ _) ?_
  refine ListK.assign (i := 1) (v := .bool false) rfl (by simp) ?_
  refine ListK.done (hK _ _ ?_)
  clear hK K
  have wb := Whole.new W 24 #[.int .i64 o, .int .i64 t, .slice A l.length c]
  have hB1 : Below W.heap.size W (W.alloc (.cells #[.int .i64 o, .int .i64 t, .slice A l.length c] 24)) := (Below.refl _ W).alloc (Nat.le_refl _) _
  have hS1 := hB1.size
  have hlt : W.heap.size < (W.alloc (.cells #[.int .i64 o, .int .i64 t, .slice A l.length c] 24)).heap.size := by simp
  generalize hb3 : W.heap.size = b3 at *
  generalize W.alloc (.cells #[.int .i64 o, .int .i64 t, .slice A l.length c] 24) = W1 at *
  replace hs : SalesAt W1 W1.heap.size A l := (hs.below hB1 (Nat.le_refl _)).more hS1
  generalize hA : Act.put _ _ _ = a1
  have hz_a1 : a1.tmps.size = 100 := by rw [← hA]; simp only [size_put, hsz]
  have u1 : a1.eval (.tmp 1) = .pointer (some ⟨b3, 0, none⟩) := by rw [← hA]; exact (by simp [hsz])
  have hd_a1 : a1.defers = [] := by rw [← hA]; simp only [defers_put, hdf]
  clear hA
  have hwk : ∀ (Q : Exit → Act → World → Prop) (W1 : World), Below b3 W W1 → (∀ (a' : Act) (W' : World), a'.defers = [] → a'.eval (.tmp 2) = .bool true → Below b3 W W' → Q .ret a' W') → ∀ a : Act, a.tmps.size = 100 → a.defers = [] → (Code.seq (.region 2 opsOd2 false) .ret).wpIn Fence.wide 5 Try.prog Q a W1 := by
    intro Q W1 hB1 hQ a hz hd
    have := hB1.size
    refine wpIn_seq (region_p 2 ?_)
    intro K hK
    refine ListK.call (i := 0) (vs := #[]) rfl (enters_of Try.func16 (by kernel_rfl) rfl) (by simp) (((wakes_any W1)).mono ?_)
    rintro _ W2 ⟨rfl, hb2⟩
    refine ⟨_, rfl, ?_⟩
    refine ListK.assign (i := 1) (v := .bool true) rfl (by simp [hz]) ?_
    refine ListK.done (hK _ _ (wpIn_ret ?_))
    exact hQ _ _ (by simp only [defers_put, hd]) (by simp [hz]) (hB1.trans (hb2.mono (by omega)))
  by_cases g0 : 12 < l.length
  · skip
    refine wpIn_seq (wpIn_seq (region_p 15 ?_))
    intro K hK
    refine ListK.field (i := 0) (u := .pointer (some ⟨b3, 0, none⟩)) (v := .pointer (some ⟨b3, 2, none⟩)) rfl (by simp [u1]) (fa24_2 _) ?_
    refine ListK.load (i := 1) (p := ⟨b3, 2, none⟩) (v := .slice A l.length c) rfl (by simp [hz_a1]) (ld22 (wb.cell 2)) ?_
    refine ListK.len (i := 2) (u := .slice A l.length c) (v := .int .i64 l.length) rfl (by simp [hz_a1]) (ln22 _ _ _ _ _) rfl ?_
    refine ListK.bin (i := 3) (u := .int .i64 l.length) (u' := .int .i64 12) (v := .bool true) rfl (by simp [hz_a1]) (by simp) (gtrT (by omega) _) ?_
    refine ListK.move (i := 4) (v := .bool true) rfl (by simp [hz_a1]) ?_
    refine ListK.passG (i := 5) (e := 13) (b' := true) rfl rfl (by simp [hz_a1]) rfl ?_
    refine ListK.passG (i := 6) (e := 13) (b' := true) rfl rfl (by simp [hz_a1]) rfl ?_
    refine ListK.passG (i := 7) (e := 13) (b' := true) rfl rfl (by simp [hz_a1]) rfl ?_
    refine ListK.passG (i := 8) (e := 13) (b' := true) rfl rfl (by simp [hz_a1]) rfl ?_
    refine ListK.passU (i := 9) (e := 17) rfl rfl (by simp [hz_a1]) ?_
    refine ListK.passU (i := 10) (e := 17) rfl rfl (by simp [hz_a1]) ?_
    refine ListK.passU (i := 11) (e := 17) rfl rfl (by simp [hz_a1]) ?_
    refine ListK.passU (i := 12) (e := 17) rfl rfl (by simp [hz_a1]) ?_
    refine ListK.passG (i := 13) (e := 13) (b' := true) rfl rfl (by simp [hz_a1]) rfl ?_
    refine ListK.pick (i := 14) (b := true) (v := .bool true) rfl (by simp [hz_a1]) (by simp) ?_
    refine ListK.done (hK _ _ ?_)
    clear hK K
    refine wpIn_cond (t := true) (by simp [hz_a1]) ?_
    refine hwk _ _ hB1 ?_ _ (by simp only [size_put, hz_a1]) (by simp only [defers_put, hd_a1])
    intro a' W' e1 e2 e3
    exact hret a' W' e1 e2 e3
  · have hl12 : l.length ≤ 12 := by omega
    by_cases h0 : fault o t l = 0
    · have hv := valid_of_fault h0
      have hm : ∀ s, s ∈ l → 0 ≤ s.many ∧ s.many ≤ 1000 := fun s hs => by
        have := saleOk_facts (hv.ok s hs)
        omega
      have ht0 := hv.t0
      have ht1 := hv.t1
      by_cases g1 : 6 < l.length
      · skip
        refine wpIn_seq (wpIn_seq (region_p 15 ?_))
        intro K hK
        refine ListK.field (i := 0) (u := .pointer (some ⟨b3, 0, none⟩)) (v := .pointer (some ⟨b3, 2, none⟩)) rfl (by simp [u1]) (fa24_2 _) ?_
        refine ListK.load (i := 1) (p := ⟨b3, 2, none⟩) (v := .slice A l.length c) rfl (by simp [hz_a1]) (ld22 (wb.cell 2)) ?_
        refine ListK.len (i := 2) (u := .slice A l.length c) (v := .int .i64 l.length) rfl (by simp [hz_a1]) (ln22 _ _ _ _ _) rfl ?_
        refine ListK.bin (i := 3) (u := .int .i64 l.length) (u' := .int .i64 12) (v := .bool false) rfl (by simp [hz_a1]) (by simp) (gtrF (by omega) _) ?_
        refine ListK.move (i := 4) (v := .bool false) rfl (by simp [hz_a1]) ?_
        refine ListK.load (i := 5) (p := ⟨b3, 0, none⟩) (v := .agg #[.int .i64 o, .int .i64 t, .slice A l.length c]) rfl (by simp [u1]) (ld24 ⟨wb.cell 0, wb.cell 1, wb.cell 2⟩) ?_ (hw := wanted_g (e := 13) (b' := false) rfl (by simp [hz_a1]) rfl)
        refine ListK.call (i := 6) (vs := #[.agg #[.int .i64 o, .int .i64 t, .slice A l.length c]]) rfl (enters_of Try.func21 (by kernel_rfl) rfl) (by simp [hz_a1]) (((lawFault_any o t A l c W1 hl12 hs)).mono ?_) (hw := wanted_g (e := 13) (b' := false) rfl (by simp [hz_a1]) rfl)
        rintro _ W2 ⟨rfl, hb_a⟩
        have hL_a := hB1.trans (hb_a.mono (by have := hB1.size; omega))
        replace hs := (hs.below hb_a (Nat.le_refl _)).more hb_a.size
        replace wb := wb.below hb_a wb.lt
        replace hB1 := hL_a
        replace hlt : b3 < W2.heap.size := wb.lt
        refine ⟨_, rfl, ?_⟩
        refine ListK.bin (i := 7) (u := .int .i64 (fault o t l)) (u' := .int .i64 0) (v := .bool true) rfl (by simp [hz_a1]) (by simp) (eql27T h0 _) ?_ (hw := wanted_g (e := 13) (b' := false) rfl (by simp [hz_a1]) rfl)
        refine ListK.move (i := 8) (v := .bool true) rfl (by simp [hz_a1]) ?_ (hw := wanted_g (e := 13) (b' := false) rfl (by simp [hz_a1]) rfl)
        refine ListK.field (i := 9) (u := .pointer (some ⟨b3, 0, none⟩)) (v := .pointer (some ⟨b3, 2, none⟩)) rfl (by simp [u1]) (fa24_2 _) ?_ (hw := wanted_g (e := 17) (b' := true) rfl (by simp [hz_a1]) rfl)
        refine ListK.load (i := 10) (p := ⟨b3, 2, none⟩) (v := .slice A l.length c) rfl (by simp [hz_a1]) (ld22 (wb.cell 2)) ?_ (hw := wanted_g (e := 17) (b' := true) rfl (by simp [hz_a1]) rfl)
        refine ListK.lenW (i := 11) (u := .slice A l.length c) (v := .int .i64 l.length) rfl (by simp [hz_a1]) (ln22 _ _ _ _ _) rfl ?_ (hw := wanted_g (e := 17) (b' := true) rfl (by simp [hz_a1]) rfl)
        refine ListK.bin (i := 12) (u := .int .i64 l.length) (u' := .int .i64 6) (v := .bool true) rfl (by simp [hz_a1]) (by simp) (gtrT (by omega) _) ?_ (hw := wanted_g (e := 17) (b' := true) rfl (by simp [hz_a1]) rfl)
        refine ListK.pickW (i := 13) (b := true) (v := .bool true) rfl (by simp [hz_a1]) (by simp [hz_a1]) ?_ (hw := wanted_g (e := 13) (b' := false) rfl (by simp [hz_a1]) rfl)
        refine ListK.pick (i := 14) (b := false) (v := .bool true) rfl (by simp [hz_a1]) (by simp [hz_a1]) ?_
        refine ListK.done (hK _ _ ?_)
        clear hK K
        refine wpIn_cond (t := true) (by simp [hz_a1]) ?_
        refine hwk _ _ hB1 ?_ _ (by simp only [size_put, hz_a1]) (by simp only [defers_put, hd_a1])
        intro a' W' e1 e2 e3
        exact hret a' W' e1 e2 e3
      · skip
        refine wpIn_seq (wpIn_seq (region_p 15 ?_))
        intro K hK
        refine ListK.field (i := 0) (u := .pointer (some ⟨b3, 0, none⟩)) (v := .pointer (some ⟨b3, 2, none⟩)) rfl (by simp [u1]) (fa24_2 _) ?_
        refine ListK.load (i := 1) (p := ⟨b3, 2, none⟩) (v := .slice A l.length c) rfl (by simp [hz_a1]) (ld22 (wb.cell 2)) ?_
        refine ListK.len (i := 2) (u := .slice A l.length c) (v := .int .i64 l.length) rfl (by simp [hz_a1]) (ln22 _ _ _ _ _) rfl ?_
        refine ListK.bin (i := 3) (u := .int .i64 l.length) (u' := .int .i64 12) (v := .bool false) rfl (by simp [hz_a1]) (by simp) (gtrF (by omega) _) ?_
        refine ListK.move (i := 4) (v := .bool false) rfl (by simp [hz_a1]) ?_
        refine ListK.load (i := 5) (p := ⟨b3, 0, none⟩) (v := .agg #[.int .i64 o, .int .i64 t, .slice A l.length c]) rfl (by simp [u1]) (ld24 ⟨wb.cell 0, wb.cell 1, wb.cell 2⟩) ?_ (hw := wanted_g (e := 13) (b' := false) rfl (by simp [hz_a1]) rfl)
        refine ListK.call (i := 6) (vs := #[.agg #[.int .i64 o, .int .i64 t, .slice A l.length c]]) rfl (enters_of Try.func21 (by kernel_rfl) rfl) (by simp [hz_a1]) (((lawFault_any o t A l c W1 hl12 hs)).mono ?_) (hw := wanted_g (e := 13) (b' := false) rfl (by simp [hz_a1]) rfl)
        rintro _ W2 ⟨rfl, hb_a⟩
        have hL_a := hB1.trans (hb_a.mono (by have := hB1.size; omega))
        replace hs := (hs.below hb_a (Nat.le_refl _)).more hb_a.size
        replace wb := wb.below hb_a wb.lt
        replace hB1 := hL_a
        replace hlt : b3 < W2.heap.size := wb.lt
        refine ⟨_, rfl, ?_⟩
        refine ListK.bin (i := 7) (u := .int .i64 (fault o t l)) (u' := .int .i64 0) (v := .bool true) rfl (by simp [hz_a1]) (by simp) (eql27T h0 _) ?_ (hw := wanted_g (e := 13) (b' := false) rfl (by simp [hz_a1]) rfl)
        refine ListK.move (i := 8) (v := .bool true) rfl (by simp [hz_a1]) ?_ (hw := wanted_g (e := 13) (b' := false) rfl (by simp [hz_a1]) rfl)
        refine ListK.field (i := 9) (u := .pointer (some ⟨b3, 0, none⟩)) (v := .pointer (some ⟨b3, 2, none⟩)) rfl (by simp [u1]) (fa24_2 _) ?_ (hw := wanted_g (e := 17) (b' := true) rfl (by simp [hz_a1]) rfl)
        refine ListK.load (i := 10) (p := ⟨b3, 2, none⟩) (v := .slice A l.length c) rfl (by simp [hz_a1]) (ld22 (wb.cell 2)) ?_ (hw := wanted_g (e := 17) (b' := true) rfl (by simp [hz_a1]) rfl)
        refine ListK.lenW (i := 11) (u := .slice A l.length c) (v := .int .i64 l.length) rfl (by simp [hz_a1]) (ln22 _ _ _ _ _) rfl ?_ (hw := wanted_g (e := 17) (b' := true) rfl (by simp [hz_a1]) rfl)
        refine ListK.bin (i := 12) (u := .int .i64 l.length) (u' := .int .i64 6) (v := .bool false) rfl (by simp [hz_a1]) (by simp) (gtrF (by omega) _) ?_ (hw := wanted_g (e := 17) (b' := true) rfl (by simp [hz_a1]) rfl)
        refine ListK.pickW (i := 13) (b := true) (v := .bool false) rfl (by simp [hz_a1]) (by simp [hz_a1]) ?_ (hw := wanted_g (e := 13) (b' := false) rfl (by simp [hz_a1]) rfl)
        refine ListK.pick (i := 14) (b := false) (v := .bool false) rfl (by simp [hz_a1]) (by simp [hz_a1]) ?_
        refine ListK.done (hK _ _ ?_)
        clear hK K
        refine wpIn_cond (t := false) (by simp [hz_a1]) (wpIn_skip ?_)
        show (Code.seq _ _).wpIn _ _ _ _ _ _
        generalize hA : Act.put _ _ _ = a2
        have hz_a2 : a2.tmps.size = 100 := by rw [← hA]; simp only [size_put, hz_a1]
        have v1 : a2.eval (.tmp 1) = .pointer (some ⟨b3, 0, none⟩) := by rw [← hA]; exact (by simp [u1])
        have hd_a2 : a2.defers = [] := by rw [← hA]; simp only [defers_put, hd_a1]
        clear hA
        refine wpIn_seq (region_p 10 ?_)
        intro K hK
        refine ListK.load (i := 0) (p := ⟨b3, 0, none⟩) (v := .agg #[.int .i64 o, .int .i64 t, .slice A l.length c]) rfl (by simp [v1]) (ld24 ⟨wb.cell 0, wb.cell 1, wb.cell 2⟩) ?_
        refine ListK.call (i := 1) (vs := #[.agg #[.int .i64 o, .int .i64 t, .slice A l.length c]]) rfl (enters_of Try.func18 (by kernel_rfl) rfl) (by simp [hz_a2]) (((batch_any o t A l c W2 (by omega) hs)).mono ?_)
        rintro _ W3 ⟨A3, c3, rfl, hs_b, hb_b⟩
        have hL_b := hB1.trans (hb_b.mono (by have := hB1.size; omega))
        replace hs := (hs.below hb_b (Nat.le_refl _)).more hb_b.size
        replace wb := wb.below hb_b wb.lt
        replace hB1 := hL_b
        replace hlt : b3 < W3.heap.size := wb.lt
        refine ⟨_, rfl, ?_⟩
        refine ListK.call (i := 2) (vs := #[.agg #[.int .i64 o, .int .i64 t, .slice A3 l.length c3]]) rfl (enters_of Try.func23 (by kernel_rfl) rfl) (by simp [hz_a2]) (((order_any o t A3 l c3 W3 (by omega) hs_b)).mono ?_)
        rintro _ W4 ⟨v1, v2, xs, ds, rfl, ⟨A5, c5, rfl, hc5, i5⟩, ⟨A6, c6, rfl, hc6, i6⟩, hor, hb_c⟩
        have hL_c := hB1.trans (hb_c.mono (by have := hB1.size; omega))
        replace hs := (hs.below hb_c (Nat.le_refl _)).more hb_c.size
        replace wb := wb.below hb_c wb.lt
        replace hB1 := hL_c
        replace hlt : b3 < W4.heap.size := wb.lt
        refine ⟨_, rfl, ?_⟩
        refine ListK.move (i := 3) (v := .tuple #[.slice A5 xs.length c5, .slice A6 ds.length c6, .int .i64 (triedE o t l true)]) rfl (by simp [hz_a2]) ?_
        refine ListK.extract (i := 4) (u := .tuple #[.slice A5 xs.length c5, .slice A6 ds.length c6, .int .i64 (triedE o t l true)]) (v := .slice A5 xs.length c5) rfl (by simp [hz_a2]) (ex3_0 _ _ _ _) ?_
        refine ListK.extract (i := 5) (u := .tuple #[.slice A5 xs.length c5, .slice A6 ds.length c6, .int .i64 (triedE o t l true)]) (v := .slice A6 ds.length c6) rfl (by simp [hz_a2]) (ex3_1 _ _ _ _) ?_
        refine ListK.extract (i := 6) (u := .tuple #[.slice A5 xs.length c5, .slice A6 ds.length c6, .int .i64 (triedE o t l true)]) (v := .int .i64 (triedE o t l true)) rfl (by simp [hz_a2]) (ex3_2 _ _ _ _) ?_
        refine ListK.assign (i := 7) (v := .slice A5 xs.length c5) rfl (by simp [hz_a2]) ?_
        refine ListK.assign (i := 8) (v := .slice A6 ds.length c6) rfl (by simp [hz_a2]) ?_
        refine ListK.assign (i := 9) (v := .int .i64 (triedE o t l true)) rfl (by simp [hz_a2]) ?_
        refine ListK.done (hK _ _ ?_)
        clear hK K
        generalize hA : Act.put _ _ _ = a3
        have hz_a3 : a3.tmps.size = 100 := by rw [← hA]; simp only [size_put, hz_a2]
        have x1 : a3.eval (.tmp 1) = .pointer (some ⟨b3, 0, none⟩) := by rw [← hA]; exact (by simp [v1])
        have x3 : a3.eval (.tmp 3) = .slice A5 xs.length c5 := by rw [← hA]; exact (by simp [hz_a2])
        have x4 : a3.eval (.tmp 4) = .slice A6 ds.length c6 := by rw [← hA]; exact (by simp [hz_a2])
        have x5 : a3.eval (.tmp 5) = .int .i64 (triedE o t l true) := by rw [← hA]; exact (by simp [hz_a2])
        have hd_a3 : a3.defers = [] := by rw [← hA]; simp only [defers_put, hd_a2]
        clear hA
        refine wpIn_seq (region_p 8 ?_)
        intro K hK
        refine ListK.load (i := 0) (p := ⟨b3, 0, none⟩) (v := .agg #[.int .i64 o, .int .i64 t, .slice A l.length c]) rfl (by simp [x1]) (ld24 ⟨wb.cell 0, wb.cell 1, wb.cell 2⟩) ?_
        refine ListK.call (i := 1) (vs := #[.agg #[.int .i64 o, .int .i64 t, .slice A l.length c]]) rfl (enters_of Try.func18 (by kernel_rfl) rfl) (by simp [hz_a3]) (((batch_any o t A l c W4 (by omega) hs)).mono ?_)
        rintro _ W5 ⟨A4, c4, rfl, hs_d, hb_d⟩
        have hL_d := hB1.trans (hb_d.mono (by have := hB1.size; omega))
        replace hs := (hs.below hb_d (Nat.le_refl _)).more hb_d.size
        replace i5 := (i5.below hb_d (Nat.le_refl _)).more hb_d.size
        replace i6 := (i6.below hb_d (Nat.le_refl _)).more hb_d.size
        replace wb := wb.below hb_d wb.lt
        replace hB1 := hL_d
        replace hlt : b3 < W5.heap.size := wb.lt
        refine ⟨_, rfl, ?_⟩
        refine ListK.call (i := 2) (vs := #[.agg #[.int .i64 o, .int .i64 t, .slice A4 l.length c4]]) rfl (enters_of Try.func24 (by kernel_rfl) rfl) (by simp [hz_a3]) (((blame_any o t A4 l c4 W5 (by omega) hs_d)).mono ?_)
        rintro _ W6 ⟨v7, rfl, ⟨A7, c7, rfl, hc7, i7⟩, hb_e⟩
        have hL_e := hB1.trans (hb_e.mono (by have := hB1.size; omega))
        replace hs := (hs.below hb_e (Nat.le_refl _)).more hb_e.size
        replace i5 := (i5.below hb_e (Nat.le_refl _)).more hb_e.size
        replace i6 := (i6.below hb_e (Nat.le_refl _)).more hb_e.size
        replace wb := wb.below hb_e wb.lt
        replace hB1 := hL_e
        replace hlt : b3 < W6.heap.size := wb.lt
        refine ⟨_, rfl, ?_⟩
        refine ListK.move (i := 3) (v := .tuple #[.slice A7 (blameV o t l).length c7, .int .i64 (fault o t l)]) rfl (by simp [hz_a3]) ?_
        refine ListK.extract (i := 4) (u := .tuple #[.slice A7 (blameV o t l).length c7, .int .i64 (fault o t l)]) (v := .slice A7 (blameV o t l).length c7) rfl (by simp [hz_a3]) (ex0 _ _ _) ?_
        refine ListK.extract (i := 5) (u := .tuple #[.slice A7 (blameV o t l).length c7, .int .i64 (fault o t l)]) (v := .int .i64 (fault o t l)) rfl (by simp [hz_a3]) (ex1 _ _ _) ?_
        refine ListK.assign (i := 6) (v := .slice A7 (blameV o t l).length c7) rfl (by simp [hz_a3]) ?_
        refine ListK.assign (i := 7) (v := .int .i64 (fault o t l)) rfl (by simp [hz_a3]) ?_
        refine ListK.done (hK _ _ ?_)
        clear hK K
        generalize hA : Act.put _ _ _ = a4
        have hz_a4 : a4.tmps.size = 100 := by rw [← hA]; simp only [size_put, hz_a3]
        have y1 : a4.eval (.tmp 1) = .pointer (some ⟨b3, 0, none⟩) := by rw [← hA]; exact (by simp [x1])
        have y3 : a4.eval (.tmp 3) = .slice A5 xs.length c5 := by rw [← hA]; exact (by simp [x3])
        have y4 : a4.eval (.tmp 4) = .slice A6 ds.length c6 := by rw [← hA]; exact (by simp [x4])
        have y5 : a4.eval (.tmp 5) = .int .i64 (triedE o t l true) := by rw [← hA]; exact (by simp [x5])
        have y6 : a4.eval (.tmp 6) = .slice A7 (blameV o t l).length c7 := by rw [← hA]; exact (by simp [hz_a3])
        have y7 : a4.eval (.tmp 7) = .int .i64 (fault o t l) := by rw [← hA]; exact (by simp [hz_a3])
        have hd_a4 : a4.defers = [] := by rw [← hA]; simp only [defers_put, hd_a3]
        clear hA
        refine wpIn_seq (wpIn_seq (region_p 3 ?_))
        intro K hK
        refine ListK.load (i := 0) (p := ⟨b3, 0, none⟩) (v := .agg #[.int .i64 o, .int .i64 t, .slice A l.length c]) rfl (by simp [y1]) (ld24 ⟨wb.cell 0, wb.cell 1, wb.cell 2⟩) ?_
        refine ListK.call (i := 1) (vs := #[.agg #[.int .i64 o, .int .i64 t, .slice A l.length c]]) rfl (enters_of Try.func21 (by kernel_rfl) rfl) (by simp [hz_a4]) (((lawFault_any o t A l c W6 hl12 hs)).mono ?_)
        rintro _ W7 ⟨rfl, hb_f⟩
        have hL_f := hB1.trans (hb_f.mono (by have := hB1.size; omega))
        replace hs := (hs.below hb_f (Nat.le_refl _)).more hb_f.size
        replace i5 := (i5.below hb_f (Nat.le_refl _)).more hb_f.size
        replace i6 := (i6.below hb_f (Nat.le_refl _)).more hb_f.size
        replace i7 := (i7.below hb_f (Nat.le_refl _)).more hb_f.size
        replace wb := wb.below hb_f wb.lt
        replace hB1 := hL_f
        replace hlt : b3 < W7.heap.size := wb.lt
        refine ⟨_, rfl, ?_⟩
        refine ListK.assign (i := 2) (v := .int .i64 (fault o t l)) rfl (by simp [hz_a4]) ?_
        refine ListK.done (hK _ _ ?_)
        clear hK K
        generalize hA : Act.put _ _ _ = a5
        have hz_a5 : a5.tmps.size = 100 := by rw [← hA]; simp only [size_put, hz_a4]
        have z1 : a5.eval (.tmp 1) = .pointer (some ⟨b3, 0, none⟩) := by rw [← hA]; exact (by simp [y1])
        have z3 : a5.eval (.tmp 3) = .slice A5 xs.length c5 := by rw [← hA]; exact (by simp [y3])
        have z4 : a5.eval (.tmp 4) = .slice A6 ds.length c6 := by rw [← hA]; exact (by simp [y4])
        have z5 : a5.eval (.tmp 5) = .int .i64 (triedE o t l true) := by rw [← hA]; exact (by simp [y5])
        have z6 : a5.eval (.tmp 6) = .slice A7 (blameV o t l).length c7 := by rw [← hA]; exact (by simp [y6])
        have z7 : a5.eval (.tmp 7) = .int .i64 (fault o t l) := by rw [← hA]; exact (by simp [y7])
        have z8 : a5.eval (.tmp 8) = .int .i64 (fault o t l) := by rw [← hA]; exact (by simp [hz_a4])
        have hd_a5 : a5.defers = [] := by rw [← hA]; simp only [defers_put, hd_a4]
        clear hA
        show (Code.seq _ _).wpIn _ _ _ _ _ _
        refine wpIn_seq (region_p 2 ?_)
        intro K hK
        refine ListK.move (i := 0) (v := .int .i64 (fault o t l)) rfl (by simp [z8]) ?_
        refine ListK.bin (i := 1) (u := .int .i64 (fault o t l)) (u' := .int .i64 0) (v := .bool false) rfl (by simp [hz_a5]) (by simp) (neq27F' h0 _) ?_
        refine ListK.done (hK _ _ ?_)
        clear hK K
        refine wpIn_cond (t := false) (by simp [hz_a5]) (wpIn_skip ?_)
        show (Code.seq _ _).wpIn _ _ _ _ _ _
        generalize hA : Act.put _ _ _ = a6
        have hz_a6 : a6.tmps.size = 100 := by rw [← hA]; simp only [size_put, hz_a5]
        have p1 : a6.eval (.tmp 1) = .pointer (some ⟨b3, 0, none⟩) := by rw [← hA]; exact (by simp [z1])
        have p3 : a6.eval (.tmp 3) = .slice A5 xs.length c5 := by rw [← hA]; exact (by simp [z3])
        have p4 : a6.eval (.tmp 4) = .slice A6 ds.length c6 := by rw [← hA]; exact (by simp [z4])
        have p5 : a6.eval (.tmp 5) = .int .i64 (triedE o t l true) := by rw [← hA]; exact (by simp [z5])
        have p6 : a6.eval (.tmp 6) = .slice A7 (blameV o t l).length c7 := by rw [← hA]; exact (by simp [z6])
        have p7 : a6.eval (.tmp 7) = .int .i64 (fault o t l) := by rw [← hA]; exact (by simp [z7])
        have hd_a6 : a6.defers = [] := by rw [← hA]; simp only [defers_put, hd_a5]
        clear hA
        have hbl : blameV o t l = fewestR t l := by rw [← law1 h0]; unfold blameV; rw [if_pos h0]
        have hfl := fewTo_length t l (2 ^ l.length)
        change (fewestR t l).length ≤ l.length at hfl
        have hsame : sameL (blameV o t l) (fewestR t l) = true := by rw [sameL_iff, hbl]; simp
        have hbll : (blameV o t l).length ≤ 12 := by rw [hbl]; omega
        refine wpIn_seq (wpIn_seq (region_p 9 ?_))
        intro K hK
        refine ListK.move (i := 0) (v := .int .i64 (fault o t l)) rfl (by simp [p7]) ?_
        refine ListK.bin (i := 1) (u := .int .i64 (fault o t l)) (u' := .int .i64 0) (v := .bool false) rfl (by simp [hz_a6]) (by simp) (neq27F' h0 _) ?_
        refine ListK.move (i := 2) (v := .bool false) rfl (by simp [hz_a6]) ?_
        refine ListK.move (i := 3) (v := .slice A7 (blameV o t l).length c7) rfl (by simp [p6]) ?_ (hw := wanted_g (e := 66) (b' := false) rfl (by simp [hz_a6]) rfl)
        refine ListK.load (i := 4) (p := ⟨b3, 0, none⟩) (v := .agg #[.int .i64 o, .int .i64 t, .slice A l.length c]) rfl (by simp [p1]) (ld24 ⟨wb.cell 0, wb.cell 1, wb.cell 2⟩) ?_ (hw := wanted_g (e := 66) (b' := false) rfl (by simp [hz_a6]) rfl)
        refine ListK.call (i := 5) (vs := #[.agg #[.int .i64 o, .int .i64 t, .slice A l.length c]]) rfl (enters_of Try.func26 (by kernel_rfl) rfl) (by simp [hz_a6]) (((fewest_any o t A l c W7 hl12 ht0 ht1 hm hs)).mono ?_) (hw := wanted_g (e := 66) (b' := false) rfl (by simp [hz_a6]) rfl)
        rintro _ W8 ⟨v8, rfl, ⟨A8, c8, rfl, _, i8⟩, hb_g⟩
        have hL_g := hB1.trans (hb_g.mono (by have := hB1.size; omega))
        replace hs := (hs.below hb_g (Nat.le_refl _)).more hb_g.size
        replace i5 := (i5.below hb_g (Nat.le_refl _)).more hb_g.size
        replace i6 := (i6.below hb_g (Nat.le_refl _)).more hb_g.size
        replace i7 := (i7.below hb_g (Nat.le_refl _)).more hb_g.size
        replace wb := wb.below hb_g wb.lt
        replace hB1 := hL_g
        replace hlt : b3 < W8.heap.size := wb.lt
        refine ⟨_, rfl, ?_⟩
        refine ListK.call (i := 6) (vs := #[.slice A7 (blameV o t l).length c7, .slice A8 (fewestR t l).length c8]) rfl (enters_of Try.func25 (by kernel_rfl) rfl) (by simp [hz_a6]) (((ints_any A7 A8 c7 c8 (blameV o t l) (fewestR t l) W8 (by omega) i7 i8)).mono ?_) (hw := wanted_g (e := 66) (b' := false) rfl (by simp [hz_a6]) rfl)
        rintro _ W9 ⟨rfl, hb_h⟩
        rw [hsame]
        have hL_h := hB1.trans (hb_h.mono (by have := hB1.size; omega))
        replace hs := (hs.below hb_h (Nat.le_refl _)).more hb_h.size
        replace i5 := (i5.below hb_h (Nat.le_refl _)).more hb_h.size
        replace i6 := (i6.below hb_h (Nat.le_refl _)).more hb_h.size
        replace wb := wb.below hb_h wb.lt
        replace hB1 := hL_h
        replace hlt : b3 < W9.heap.size := wb.lt
        refine ⟨_, rfl, ?_⟩
        refine ListK.un (i := 7) (u := .bool true) (v := .bool false) rfl (by simp [hz_a6]) (not4 _ _) ?_ (hw := wanted_g (e := 66) (b' := false) rfl (by simp [hz_a6]) rfl)
        refine ListK.pick (i := 8) (b := false) (v := .bool false) rfl (by simp [hz_a6]) (by simp [hz_a6]) ?_
        refine ListK.done (hK _ _ ?_)
        clear hK K
        refine wpIn_cond (t := false) (by simp [hz_a6]) (wpIn_skip ?_)
        show (Code.seq _ _).wpIn _ _ _ _ _ _
        generalize hA : Act.put _ _ _ = a7
        have hz_a7 : a7.tmps.size = 100 := by rw [← hA]; simp only [size_put, hz_a6]
        have r1 : a7.eval (.tmp 1) = .pointer (some ⟨b3, 0, none⟩) := by rw [← hA]; exact (by simp [p1])
        have r3 : a7.eval (.tmp 3) = .slice A5 xs.length c5 := by rw [← hA]; exact (by simp [p3])
        have r4 : a7.eval (.tmp 4) = .slice A6 ds.length c6 := by rw [← hA]; exact (by simp [p4])
        have r5 : a7.eval (.tmp 5) = .int .i64 (triedE o t l true) := by rw [← hA]; exact (by simp [p5])
        have hd_a7 : a7.defers = [] := by rw [← hA]; simp only [defers_put, hd_a6]
        clear hA
        have hlaw2 := law2 h0
        cases hF : fitsB t l with
        | false =>
          rw [hF] at hlaw2
          obtain ⟨hx0, hd0⟩ := ord_none hor (by rw [tried_no h0 hF]; decide)
          have h9 := tried_no h0 hF
          refine wpIn_seq (wpIn_seq (region_p 3 ?_))
          intro K hK
          refine ListK.load (i := 0) (p := ⟨b3, 0, none⟩) (v := .agg #[.int .i64 o, .int .i64 t, .slice A l.length c]) rfl (by simp [r1]) (ld24 ⟨wb.cell 0, wb.cell 1, wb.cell 2⟩) ?_
          refine ListK.call (i := 1) (vs := #[.agg #[.int .i64 o, .int .i64 t, .slice A l.length c], .slice none 0 0, .int .i64 0]) rfl (enters_of Try.func27 (by kernel_rfl) rfl) (by simp [hz_a7]) (((can_any o t A l c hl12 ht0 ht1 hm l.length [] 0 none 0 W9 (by simp) (fun d h => by simp at h) hs (fun k x h => by simp at h))).mono ?_)
          rintro _ W10 ⟨rfl, hb_i⟩
          rw [← hlaw2]
          have hL_i := hB1.trans (hb_i.mono (by have := hB1.size; omega))
          replace hs := (hs.below hb_i (Nat.le_refl _)).more hb_i.size
          replace i5 := (i5.below hb_i (Nat.le_refl _)).more hb_i.size
          replace i6 := (i6.below hb_i (Nat.le_refl _)).more hb_i.size
          replace wb := wb.below hb_i wb.lt
          replace hB1 := hL_i
          replace hlt : b3 < W10.heap.size := wb.lt
          refine ⟨_, rfl, ?_⟩
          refine ListK.un (i := 2) (u := .bool false) (v := .bool true) rfl (by simp [hz_a7]) (not4 _ _) ?_
          refine ListK.done (hK _ _ ?_)
          clear hK K
          refine wpIn_cond (t := true) (by simp [hz_a7]) ?_
          generalize hA : Act.put _ _ _ = a8
          have hz_a8 : a8.tmps.size = 100 := by rw [← hA]; simp only [size_put, hz_a7]
          have s1 : a8.eval (.tmp 1) = .pointer (some ⟨b3, 0, none⟩) := by rw [← hA]; exact (by simp [r1])
          have s3 : a8.eval (.tmp 3) = .slice A5 xs.length c5 := by rw [← hA]; exact (by simp [r3])
          have s4 : a8.eval (.tmp 4) = .slice A6 ds.length c6 := by rw [← hA]; exact (by simp [r4])
          have s5 : a8.eval (.tmp 5) = .int .i64 (triedE o t l true) := by rw [← hA]; exact (by simp [r5])
          have hd_a8 : a8.defers = [] := by rw [← hA]; simp only [defers_put, hd_a7]
          clear hA
          refine wpIn_seq (region_p 14 ?_)
          intro K hK
          refine ListK.move (i := 0) (v := .int .i64 (triedE o t l true)) rfl (by simp [s5]) ?_
          refine ListK.bin (i := 1) (u := .int .i64 (triedE o t l true)) (u' := .int .i64 9) (v := .bool true) rfl (by simp [hz_a8]) (by simp) (eql27T h9 _) ?_
          refine ListK.move (i := 2) (v := .bool true) rfl (by simp [hz_a8]) ?_
          refine ListK.move (i := 3) (v := .slice A5 xs.length c5) rfl (by simp [s3]) ?_ (hw := wanted_g (e := 78) (b' := true) rfl (by simp [hz_a8]) rfl)
          refine ListK.lenW (i := 4) (u := .slice A5 xs.length c5) (v := .int .i64 xs.length) rfl (by simp [hz_a8]) (ln25 _ _ _ _ _) rfl ?_ (hw := wanted_g (e := 78) (b' := true) rfl (by simp [hz_a8]) rfl)
          refine ListK.move (i := 5) (v := .slice A6 ds.length c6) rfl (by simp [s4]) ?_ (hw := wanted_g (e := 78) (b' := true) rfl (by simp [hz_a8]) rfl)
          refine ListK.lenW (i := 6) (u := .slice A6 ds.length c6) (v := .int .i64 ds.length) rfl (by simp [hz_a8]) (ln25 _ _ _ _ _) rfl ?_ (hw := wanted_g (e := 78) (b' := true) rfl (by simp [hz_a8]) rfl)
          refine ListK.bin (i := 7) (u := .int .i64 xs.length) (u' := .int .i64 ds.length) (v := .int .i64 (xs.length + ds.length)) rfl (by simp [hz_a8]) (by simp [hz_a8]) (add3 (by omega) (by omega) _) ?_ (hw := wanted_g (e := 78) (b' := true) rfl (by simp [hz_a8]) rfl)
          refine ListK.bin (i := 8) (u := .int .i64 (xs.length + ds.length)) (u' := .int .i64 0) (v := .bool true) rfl (by simp [hz_a8]) (by simp) (eql3T (by omega) _) ?_ (hw := wanted_g (e := 78) (b' := true) rfl (by simp [hz_a8]) rfl)
          refine ListK.pick (i := 9) (b := true) (v := .bool true) rfl (by simp [hz_a8]) (by simp [hz_a8]) ?_
          refine ListK.move (i := 10) (v := .bool true) rfl (by simp [hz_a8]) ?_
          refine ListK.call (i := 11) (vs := #[]) rfl (enters_of Try.func16 (by kernel_rfl) rfl) (by simp) (((wakes_any W10)).mono ?_) (hw := wanted_g (e := 86) (b' := true) rfl (by simp [hz_a8]) rfl)
          rintro _ W11 ⟨rfl, hb_j⟩
          have hL_j := hB1.trans (hb_j.mono (by have := hB1.size; omega))
          replace hs := (hs.below hb_j (Nat.le_refl _)).more hb_j.size
          replace wb := wb.below hb_j wb.lt
          replace hB1 := hL_j
          replace hlt : b3 < W11.heap.size := wb.lt
          refine ⟨_, rfl, ?_⟩
          refine ListK.pick (i := 12) (b := true) (v := .bool true) rfl (by simp [hz_a8]) (by simp [hz_a8]) ?_
          refine ListK.assign (i := 13) (v := .bool true) rfl (by simp [hz_a8]) ?_
          refine ListK.done (hK _ _ (wpIn_ret ?_))
          exact hret _ _ (by simp only [defers_put, hd_a8]) (by simp [hz_a8]) hB1
        | true =>
          rw [hF] at hlaw2
          obtain ⟨htr, hxl, hdl⟩ := ord_truth hor h0 hF
          have h9 := tried_yes h0 hF
          refine wpIn_seq (wpIn_seq (region_p 3 ?_))
          intro K hK
          refine ListK.load (i := 0) (p := ⟨b3, 0, none⟩) (v := .agg #[.int .i64 o, .int .i64 t, .slice A l.length c]) rfl (by simp [r1]) (ld24 ⟨wb.cell 0, wb.cell 1, wb.cell 2⟩) ?_
          refine ListK.call (i := 1) (vs := #[.agg #[.int .i64 o, .int .i64 t, .slice A l.length c], .slice none 0 0, .int .i64 0]) rfl (enters_of Try.func27 (by kernel_rfl) rfl) (by simp [hz_a7]) (((can_any o t A l c hl12 ht0 ht1 hm l.length [] 0 none 0 W9 (by simp) (fun d h => by simp at h) hs (fun k x h => by simp at h))).mono ?_)
          rintro _ W10 ⟨rfl, hb_i⟩
          rw [← hlaw2]
          have hL_i := hB1.trans (hb_i.mono (by have := hB1.size; omega))
          replace hs := (hs.below hb_i (Nat.le_refl _)).more hb_i.size
          replace i5 := (i5.below hb_i (Nat.le_refl _)).more hb_i.size
          replace i6 := (i6.below hb_i (Nat.le_refl _)).more hb_i.size
          replace wb := wb.below hb_i wb.lt
          replace hB1 := hL_i
          replace hlt : b3 < W10.heap.size := wb.lt
          refine ⟨_, rfl, ?_⟩
          refine ListK.un (i := 2) (u := .bool true) (v := .bool false) rfl (by simp [hz_a7]) (not4 _ _) ?_
          refine ListK.done (hK _ _ ?_)
          clear hK K
          refine wpIn_cond (t := false) (by simp [hz_a7]) (wpIn_skip ?_)
          show (Code.seq _ _).wpIn _ _ _ _ _ _
          generalize hA : Act.put _ _ _ = a8
          have hz_a8 : a8.tmps.size = 100 := by rw [← hA]; simp only [size_put, hz_a7]
          have s1 : a8.eval (.tmp 1) = .pointer (some ⟨b3, 0, none⟩) := by rw [← hA]; exact (by simp [r1])
          have s3 : a8.eval (.tmp 3) = .slice A5 xs.length c5 := by rw [← hA]; exact (by simp [r3])
          have s4 : a8.eval (.tmp 4) = .slice A6 ds.length c6 := by rw [← hA]; exact (by simp [r4])
          have s5 : a8.eval (.tmp 5) = .int .i64 (triedE o t l true) := by rw [← hA]; exact (by simp [r5])
          have hd_a8 : a8.defers = [] := by rw [← hA]; simp only [defers_put, hd_a7]
          clear hA
          refine wpIn_seq (region_p 12 ?_)
          intro K hK
          refine ListK.move (i := 0) (v := .int .i64 (triedE o t l true)) rfl (by simp [s5]) ?_
          refine ListK.bin (i := 1) (u := .int .i64 (triedE o t l true)) (u' := .int .i64 0) (v := .bool true) rfl (by simp [hz_a8]) (by simp) (eql27T h9 _) ?_
          refine ListK.move (i := 2) (v := .bool true) rfl (by simp [hz_a8]) ?_
          refine ListK.load (i := 3) (p := ⟨b3, 0, none⟩) (v := .agg #[.int .i64 o, .int .i64 t, .slice A l.length c]) rfl (by simp [s1]) (ld24 ⟨wb.cell 0, wb.cell 1, wb.cell 2⟩) ?_ (hw := wanted_g (e := 91) (b' := true) rfl (by simp [hz_a8]) rfl)
          refine ListK.move (i := 4) (v := .slice A5 xs.length c5) rfl (by simp [s3]) ?_ (hw := wanted_g (e := 91) (b' := true) rfl (by simp [hz_a8]) rfl)
          refine ListK.move (i := 5) (v := .slice A6 ds.length c6) rfl (by simp [s4]) ?_ (hw := wanted_g (e := 91) (b' := true) rfl (by simp [hz_a8]) rfl)
          refine ListK.call (i := 6) (vs := #[.agg #[.int .i64 o, .int .i64 t, .slice A l.length c], .slice A5 xs.length c5, .slice A6 ds.length c6]) rfl (enters_of Try.func22 (by kernel_rfl) rfl) (by simp [hz_a8]) (((truth_any o t A A5 A6 l xs ds c c5 c6 W10 hl12 hc5 (by omega) (by omega) ht0 ht1 hm hs i5 i6)).mono ?_) (hw := wanted_g (e := 91) (b' := true) rfl (by simp [hz_a8]) rfl)
          rintro _ W11 ⟨rfl, hb_j⟩
          rw [htr]
          have hL_j := hB1.trans (hb_j.mono (by have := hB1.size; omega))
          replace hs := (hs.below hb_j (Nat.le_refl _)).more hb_j.size
          replace wb := wb.below hb_j wb.lt
          replace hB1 := hL_j
          replace hlt : b3 < W11.heap.size := wb.lt
          refine ⟨_, rfl, ?_⟩
          refine ListK.pick (i := 7) (b := true) (v := .bool true) rfl (by simp [hz_a8]) (by simp [hz_a8]) ?_
          refine ListK.move (i := 8) (v := .bool true) rfl (by simp [hz_a8]) ?_
          refine ListK.call (i := 9) (vs := #[]) rfl (enters_of Try.func16 (by kernel_rfl) rfl) (by simp) (((wakes_any W11)).mono ?_) (hw := wanted_g (e := 97) (b' := true) rfl (by simp [hz_a8]) rfl)
          rintro _ W12 ⟨rfl, hb_k⟩
          have hL_k := hB1.trans (hb_k.mono (by have := hB1.size; omega))
          replace hs := (hs.below hb_k (Nat.le_refl _)).more hb_k.size
          replace wb := wb.below hb_k wb.lt
          replace hB1 := hL_k
          replace hlt : b3 < W12.heap.size := wb.lt
          refine ⟨_, rfl, ?_⟩
          refine ListK.pick (i := 10) (b := true) (v := .bool true) rfl (by simp [hz_a8]) (by simp [hz_a8]) ?_
          refine ListK.assign (i := 11) (v := .bool true) rfl (by simp [hz_a8]) ?_
          refine ListK.done (hK _ _ (wpIn_ret ?_))
          exact hret _ _ (by simp only [defers_put, hd_a8]) (by simp [hz_a8]) hB1
    · skip
      have h9 := tried_fault h0
      refine wpIn_seq (wpIn_seq (region_p 15 ?_))
      intro K hK
      refine ListK.field (i := 0) (u := .pointer (some ⟨b3, 0, none⟩)) (v := .pointer (some ⟨b3, 2, none⟩)) rfl (by simp [u1]) (fa24_2 _) ?_
      refine ListK.load (i := 1) (p := ⟨b3, 2, none⟩) (v := .slice A l.length c) rfl (by simp [hz_a1]) (ld22 (wb.cell 2)) ?_
      refine ListK.len (i := 2) (u := .slice A l.length c) (v := .int .i64 l.length) rfl (by simp [hz_a1]) (ln22 _ _ _ _ _) rfl ?_
      refine ListK.bin (i := 3) (u := .int .i64 l.length) (u' := .int .i64 12) (v := .bool false) rfl (by simp [hz_a1]) (by simp) (gtrF (by omega) _) ?_
      refine ListK.move (i := 4) (v := .bool false) rfl (by simp [hz_a1]) ?_
      refine ListK.load (i := 5) (p := ⟨b3, 0, none⟩) (v := .agg #[.int .i64 o, .int .i64 t, .slice A l.length c]) rfl (by simp [u1]) (ld24 ⟨wb.cell 0, wb.cell 1, wb.cell 2⟩) ?_ (hw := wanted_g (e := 13) (b' := false) rfl (by simp [hz_a1]) rfl)
      refine ListK.call (i := 6) (vs := #[.agg #[.int .i64 o, .int .i64 t, .slice A l.length c]]) rfl (enters_of Try.func21 (by kernel_rfl) rfl) (by simp [hz_a1]) (((lawFault_any o t A l c W1 hl12 hs)).mono ?_) (hw := wanted_g (e := 13) (b' := false) rfl (by simp [hz_a1]) rfl)
      rintro _ W2 ⟨rfl, hb_a⟩
      have hL_a := hB1.trans (hb_a.mono (by have := hB1.size; omega))
      replace hs := (hs.below hb_a (Nat.le_refl _)).more hb_a.size
      replace wb := wb.below hb_a wb.lt
      replace hB1 := hL_a
      replace hlt : b3 < W2.heap.size := wb.lt
      refine ⟨_, rfl, ?_⟩
      refine ListK.bin (i := 7) (u := .int .i64 (fault o t l)) (u' := .int .i64 0) (v := .bool false) rfl (by simp [hz_a1]) (by simp) (eql27F h0 _) ?_ (hw := wanted_g (e := 13) (b' := false) rfl (by simp [hz_a1]) rfl)
      refine ListK.move (i := 8) (v := .bool false) rfl (by simp [hz_a1]) ?_ (hw := wanted_g (e := 13) (b' := false) rfl (by simp [hz_a1]) rfl)
      refine ListK.passG (i := 9) (e := 17) (b' := false) rfl rfl (by simp [hz_a1]) rfl ?_
      refine ListK.passG (i := 10) (e := 17) (b' := false) rfl rfl (by simp [hz_a1]) rfl ?_
      refine ListK.passG (i := 11) (e := 17) (b' := false) rfl rfl (by simp [hz_a1]) rfl ?_
      refine ListK.passG (i := 12) (e := 17) (b' := false) rfl rfl (by simp [hz_a1]) rfl ?_
      refine ListK.pickW (i := 13) (b := false) (v := .bool false) rfl (by simp [hz_a1]) (by simp) ?_ (hw := wanted_g (e := 13) (b' := false) rfl (by simp [hz_a1]) rfl)
      refine ListK.pick (i := 14) (b := false) (v := .bool false) rfl (by simp [hz_a1]) (by simp [hz_a1]) ?_
      refine ListK.done (hK _ _ ?_)
      clear hK K
      refine wpIn_cond (t := false) (by simp [hz_a1]) (wpIn_skip ?_)
      show (Code.seq _ _).wpIn _ _ _ _ _ _
      generalize hA : Act.put _ _ _ = a2
      have hz_a2 : a2.tmps.size = 100 := by rw [← hA]; simp only [size_put, hz_a1]
      have v1 : a2.eval (.tmp 1) = .pointer (some ⟨b3, 0, none⟩) := by rw [← hA]; exact (by simp [u1])
      have hd_a2 : a2.defers = [] := by rw [← hA]; simp only [defers_put, hd_a1]
      clear hA
      refine wpIn_seq (region_p 10 ?_)
      intro K hK
      refine ListK.load (i := 0) (p := ⟨b3, 0, none⟩) (v := .agg #[.int .i64 o, .int .i64 t, .slice A l.length c]) rfl (by simp [v1]) (ld24 ⟨wb.cell 0, wb.cell 1, wb.cell 2⟩) ?_
      refine ListK.call (i := 1) (vs := #[.agg #[.int .i64 o, .int .i64 t, .slice A l.length c]]) rfl (enters_of Try.func18 (by kernel_rfl) rfl) (by simp [hz_a2]) (((batch_any o t A l c W2 (by omega) hs)).mono ?_)
      rintro _ W3 ⟨A3, c3, rfl, hs_b, hb_b⟩
      have hL_b := hB1.trans (hb_b.mono (by have := hB1.size; omega))
      replace hs := (hs.below hb_b (Nat.le_refl _)).more hb_b.size
      replace wb := wb.below hb_b wb.lt
      replace hB1 := hL_b
      replace hlt : b3 < W3.heap.size := wb.lt
      refine ⟨_, rfl, ?_⟩
      refine ListK.call (i := 2) (vs := #[.agg #[.int .i64 o, .int .i64 t, .slice A3 l.length c3]]) rfl (enters_of Try.func23 (by kernel_rfl) rfl) (by simp [hz_a2]) (((order_any o t A3 l c3 W3 (by omega) hs_b)).mono ?_)
      rintro _ W4 ⟨v1, v2, xs, ds, rfl, ⟨A5, c5, rfl, hc5, i5⟩, ⟨A6, c6, rfl, hc6, i6⟩, hor, hb_c⟩
      have hL_c := hB1.trans (hb_c.mono (by have := hB1.size; omega))
      replace hs := (hs.below hb_c (Nat.le_refl _)).more hb_c.size
      replace wb := wb.below hb_c wb.lt
      replace hB1 := hL_c
      replace hlt : b3 < W4.heap.size := wb.lt
      refine ⟨_, rfl, ?_⟩
      refine ListK.move (i := 3) (v := .tuple #[.slice A5 xs.length c5, .slice A6 ds.length c6, .int .i64 (triedE o t l true)]) rfl (by simp [hz_a2]) ?_
      refine ListK.extract (i := 4) (u := .tuple #[.slice A5 xs.length c5, .slice A6 ds.length c6, .int .i64 (triedE o t l true)]) (v := .slice A5 xs.length c5) rfl (by simp [hz_a2]) (ex3_0 _ _ _ _) ?_
      refine ListK.extract (i := 5) (u := .tuple #[.slice A5 xs.length c5, .slice A6 ds.length c6, .int .i64 (triedE o t l true)]) (v := .slice A6 ds.length c6) rfl (by simp [hz_a2]) (ex3_1 _ _ _ _) ?_
      refine ListK.extract (i := 6) (u := .tuple #[.slice A5 xs.length c5, .slice A6 ds.length c6, .int .i64 (triedE o t l true)]) (v := .int .i64 (triedE o t l true)) rfl (by simp [hz_a2]) (ex3_2 _ _ _ _) ?_
      refine ListK.assign (i := 7) (v := .slice A5 xs.length c5) rfl (by simp [hz_a2]) ?_
      refine ListK.assign (i := 8) (v := .slice A6 ds.length c6) rfl (by simp [hz_a2]) ?_
      refine ListK.assign (i := 9) (v := .int .i64 (triedE o t l true)) rfl (by simp [hz_a2]) ?_
      refine ListK.done (hK _ _ ?_)
      clear hK K
      generalize hA : Act.put _ _ _ = a3
      have hz_a3 : a3.tmps.size = 100 := by rw [← hA]; simp only [size_put, hz_a2]
      have x1 : a3.eval (.tmp 1) = .pointer (some ⟨b3, 0, none⟩) := by rw [← hA]; exact (by simp [v1])
      have x3 : a3.eval (.tmp 3) = .slice A5 xs.length c5 := by rw [← hA]; exact (by simp [hz_a2])
      have x4 : a3.eval (.tmp 4) = .slice A6 ds.length c6 := by rw [← hA]; exact (by simp [hz_a2])
      have x5 : a3.eval (.tmp 5) = .int .i64 (triedE o t l true) := by rw [← hA]; exact (by simp [hz_a2])
      have hd_a3 : a3.defers = [] := by rw [← hA]; simp only [defers_put, hd_a2]
      clear hA
      refine wpIn_seq (region_p 8 ?_)
      intro K hK
      refine ListK.load (i := 0) (p := ⟨b3, 0, none⟩) (v := .agg #[.int .i64 o, .int .i64 t, .slice A l.length c]) rfl (by simp [x1]) (ld24 ⟨wb.cell 0, wb.cell 1, wb.cell 2⟩) ?_
      refine ListK.call (i := 1) (vs := #[.agg #[.int .i64 o, .int .i64 t, .slice A l.length c]]) rfl (enters_of Try.func18 (by kernel_rfl) rfl) (by simp [hz_a3]) (((batch_any o t A l c W4 (by omega) hs)).mono ?_)
      rintro _ W5 ⟨A4, c4, rfl, hs_d, hb_d⟩
      have hL_d := hB1.trans (hb_d.mono (by have := hB1.size; omega))
      replace hs := (hs.below hb_d (Nat.le_refl _)).more hb_d.size
      replace i5 := (i5.below hb_d (Nat.le_refl _)).more hb_d.size
      replace i6 := (i6.below hb_d (Nat.le_refl _)).more hb_d.size
      replace wb := wb.below hb_d wb.lt
      replace hB1 := hL_d
      replace hlt : b3 < W5.heap.size := wb.lt
      refine ⟨_, rfl, ?_⟩
      refine ListK.call (i := 2) (vs := #[.agg #[.int .i64 o, .int .i64 t, .slice A4 l.length c4]]) rfl (enters_of Try.func24 (by kernel_rfl) rfl) (by simp [hz_a3]) (((blame_any o t A4 l c4 W5 (by omega) hs_d)).mono ?_)
      rintro _ W6 ⟨v7, rfl, ⟨A7, c7, rfl, hc7, i7⟩, hb_e⟩
      have hL_e := hB1.trans (hb_e.mono (by have := hB1.size; omega))
      replace hs := (hs.below hb_e (Nat.le_refl _)).more hb_e.size
      replace i5 := (i5.below hb_e (Nat.le_refl _)).more hb_e.size
      replace i6 := (i6.below hb_e (Nat.le_refl _)).more hb_e.size
      replace wb := wb.below hb_e wb.lt
      replace hB1 := hL_e
      replace hlt : b3 < W6.heap.size := wb.lt
      refine ⟨_, rfl, ?_⟩
      refine ListK.move (i := 3) (v := .tuple #[.slice A7 (blameV o t l).length c7, .int .i64 (fault o t l)]) rfl (by simp [hz_a3]) ?_
      refine ListK.extract (i := 4) (u := .tuple #[.slice A7 (blameV o t l).length c7, .int .i64 (fault o t l)]) (v := .slice A7 (blameV o t l).length c7) rfl (by simp [hz_a3]) (ex0 _ _ _) ?_
      refine ListK.extract (i := 5) (u := .tuple #[.slice A7 (blameV o t l).length c7, .int .i64 (fault o t l)]) (v := .int .i64 (fault o t l)) rfl (by simp [hz_a3]) (ex1 _ _ _) ?_
      refine ListK.assign (i := 6) (v := .slice A7 (blameV o t l).length c7) rfl (by simp [hz_a3]) ?_
      refine ListK.assign (i := 7) (v := .int .i64 (fault o t l)) rfl (by simp [hz_a3]) ?_
      refine ListK.done (hK _ _ ?_)
      clear hK K
      generalize hA : Act.put _ _ _ = a4
      have hz_a4 : a4.tmps.size = 100 := by rw [← hA]; simp only [size_put, hz_a3]
      have y1 : a4.eval (.tmp 1) = .pointer (some ⟨b3, 0, none⟩) := by rw [← hA]; exact (by simp [x1])
      have y3 : a4.eval (.tmp 3) = .slice A5 xs.length c5 := by rw [← hA]; exact (by simp [x3])
      have y4 : a4.eval (.tmp 4) = .slice A6 ds.length c6 := by rw [← hA]; exact (by simp [x4])
      have y5 : a4.eval (.tmp 5) = .int .i64 (triedE o t l true) := by rw [← hA]; exact (by simp [x5])
      have y6 : a4.eval (.tmp 6) = .slice A7 (blameV o t l).length c7 := by rw [← hA]; exact (by simp [hz_a3])
      have y7 : a4.eval (.tmp 7) = .int .i64 (fault o t l) := by rw [← hA]; exact (by simp [hz_a3])
      have hd_a4 : a4.defers = [] := by rw [← hA]; simp only [defers_put, hd_a3]
      clear hA
      refine wpIn_seq (wpIn_seq (region_p 3 ?_))
      intro K hK
      refine ListK.load (i := 0) (p := ⟨b3, 0, none⟩) (v := .agg #[.int .i64 o, .int .i64 t, .slice A l.length c]) rfl (by simp [y1]) (ld24 ⟨wb.cell 0, wb.cell 1, wb.cell 2⟩) ?_
      refine ListK.call (i := 1) (vs := #[.agg #[.int .i64 o, .int .i64 t, .slice A l.length c]]) rfl (enters_of Try.func21 (by kernel_rfl) rfl) (by simp [hz_a4]) (((lawFault_any o t A l c W6 hl12 hs)).mono ?_)
      rintro _ W7 ⟨rfl, hb_f⟩
      have hL_f := hB1.trans (hb_f.mono (by have := hB1.size; omega))
      replace hs := (hs.below hb_f (Nat.le_refl _)).more hb_f.size
      replace i5 := (i5.below hb_f (Nat.le_refl _)).more hb_f.size
      replace i6 := (i6.below hb_f (Nat.le_refl _)).more hb_f.size
      replace i7 := (i7.below hb_f (Nat.le_refl _)).more hb_f.size
      replace wb := wb.below hb_f wb.lt
      replace hB1 := hL_f
      replace hlt : b3 < W7.heap.size := wb.lt
      refine ⟨_, rfl, ?_⟩
      refine ListK.assign (i := 2) (v := .int .i64 (fault o t l)) rfl (by simp [hz_a4]) ?_
      refine ListK.done (hK _ _ ?_)
      clear hK K
      generalize hA : Act.put _ _ _ = a5
      have hz_a5 : a5.tmps.size = 100 := by rw [← hA]; simp only [size_put, hz_a4]
      have z1 : a5.eval (.tmp 1) = .pointer (some ⟨b3, 0, none⟩) := by rw [← hA]; exact (by simp [y1])
      have z3 : a5.eval (.tmp 3) = .slice A5 xs.length c5 := by rw [← hA]; exact (by simp [y3])
      have z4 : a5.eval (.tmp 4) = .slice A6 ds.length c6 := by rw [← hA]; exact (by simp [y4])
      have z5 : a5.eval (.tmp 5) = .int .i64 (triedE o t l true) := by rw [← hA]; exact (by simp [y5])
      have z6 : a5.eval (.tmp 6) = .slice A7 (blameV o t l).length c7 := by rw [← hA]; exact (by simp [y6])
      have z7 : a5.eval (.tmp 7) = .int .i64 (fault o t l) := by rw [← hA]; exact (by simp [y7])
      have z8 : a5.eval (.tmp 8) = .int .i64 (fault o t l) := by rw [← hA]; exact (by simp [hz_a4])
      have hd_a5 : a5.defers = [] := by rw [← hA]; simp only [defers_put, hd_a4]
      clear hA
      have hbl : (blameV o t l).length = 0 := by unfold blameV; rw [if_neg h0]; rfl
      obtain ⟨hx0, hd0⟩ := ord_none hor (by rw [h9]; exact h0)
      show (Code.seq _ _).wpIn _ _ _ _ _ _
      refine wpIn_seq (region_p 2 ?_)
      intro K hK
      refine ListK.move (i := 0) (v := .int .i64 (fault o t l)) rfl (by simp [z8]) ?_
      refine ListK.bin (i := 1) (u := .int .i64 (fault o t l)) (u' := .int .i64 0) (v := .bool true) rfl (by simp [hz_a5]) (by simp) (neq27T' h0 _) ?_
      refine ListK.done (hK _ _ ?_)
      clear hK K
      refine wpIn_cond (t := true) (by simp [hz_a5]) ?_
      generalize hA : Act.put _ _ _ = a6
      have hz_a6 : a6.tmps.size = 100 := by rw [← hA]; simp only [size_put, hz_a5]
      have p1 : a6.eval (.tmp 1) = .pointer (some ⟨b3, 0, none⟩) := by rw [← hA]; exact (by simp [z1])
      have p3 : a6.eval (.tmp 3) = .slice A5 xs.length c5 := by rw [← hA]; exact (by simp [z3])
      have p4 : a6.eval (.tmp 4) = .slice A6 ds.length c6 := by rw [← hA]; exact (by simp [z4])
      have p5 : a6.eval (.tmp 5) = .int .i64 (triedE o t l true) := by rw [← hA]; exact (by simp [z5])
      have p6 : a6.eval (.tmp 6) = .slice A7 (blameV o t l).length c7 := by rw [← hA]; exact (by simp [z6])
      have p7 : a6.eval (.tmp 7) = .int .i64 (fault o t l) := by rw [← hA]; exact (by simp [z7])
      have p8 : a6.eval (.tmp 8) = .int .i64 (fault o t l) := by rw [← hA]; exact (by simp [z8])
      have hd_a6 : a6.defers = [] := by rw [← hA]; simp only [defers_put, hd_a5]
      clear hA
      refine wpIn_seq (region_p 23 ?_)
      intro K hK
      refine ListK.move (i := 0) (v := .int .i64 (triedE o t l true)) rfl (by simp [p5]) ?_
      refine ListK.move (i := 1) (v := .int .i64 (fault o t l)) rfl (by simp [p8]) ?_
      refine ListK.bin (i := 2) (u := .int .i64 (triedE o t l true)) (u' := .int .i64 (fault o t l)) (v := .bool true) rfl (by simp [hz_a6]) (by simp [hz_a6]) (eql27T h9 _) ?_
      refine ListK.move (i := 3) (v := .bool true) rfl (by simp [hz_a6]) ?_
      refine ListK.move (i := 4) (v := .int .i64 (fault o t l)) rfl (by simp [p7]) ?_ (hw := wanted_g (e := 45) (b' := true) rfl (by simp [hz_a6]) rfl)
      refine ListK.move (i := 5) (v := .int .i64 (fault o t l)) rfl (by simp [p8]) ?_ (hw := wanted_g (e := 45) (b' := true) rfl (by simp [hz_a6]) rfl)
      refine ListK.bin (i := 6) (u := .int .i64 (fault o t l)) (u' := .int .i64 (fault o t l)) (v := .bool true) rfl (by simp [hz_a6]) (by simp [hz_a6]) (eql27T rfl _) ?_ (hw := wanted_g (e := 45) (b' := true) rfl (by simp [hz_a6]) rfl)
      refine ListK.pick (i := 7) (b := true) (v := .bool true) rfl (by simp [hz_a6]) (by simp [hz_a6]) ?_
      refine ListK.move (i := 8) (v := .bool true) rfl (by simp [hz_a6]) ?_
      refine ListK.move (i := 9) (v := .slice A5 xs.length c5) rfl (by simp [p3]) ?_ (hw := wanted_g (e := 50) (b' := true) rfl (by simp [hz_a6]) rfl)
      refine ListK.lenW (i := 10) (u := .slice A5 xs.length c5) (v := .int .i64 xs.length) rfl (by simp [hz_a6]) (ln25 _ _ _ _ _) rfl ?_ (hw := wanted_g (e := 50) (b' := true) rfl (by simp [hz_a6]) rfl)
      refine ListK.move (i := 11) (v := .slice A6 ds.length c6) rfl (by simp [p4]) ?_ (hw := wanted_g (e := 50) (b' := true) rfl (by simp [hz_a6]) rfl)
      refine ListK.lenW (i := 12) (u := .slice A6 ds.length c6) (v := .int .i64 ds.length) rfl (by simp [hz_a6]) (ln25 _ _ _ _ _) rfl ?_ (hw := wanted_g (e := 50) (b' := true) rfl (by simp [hz_a6]) rfl)
      refine ListK.bin (i := 13) (u := .int .i64 xs.length) (u' := .int .i64 ds.length) (v := .int .i64 (xs.length + ds.length)) rfl (by simp [hz_a6]) (by simp [hz_a6]) (add3 (by omega) (by omega) _) ?_ (hw := wanted_g (e := 50) (b' := true) rfl (by simp [hz_a6]) rfl)
      refine ListK.move (i := 14) (v := .slice A7 (blameV o t l).length c7) rfl (by simp [p6]) ?_ (hw := wanted_g (e := 50) (b' := true) rfl (by simp [hz_a6]) rfl)
      refine ListK.lenW (i := 15) (u := .slice A7 (blameV o t l).length c7) (v := .int .i64 (blameV o t l).length) rfl (by simp [hz_a6]) (ln25 _ _ _ _ _) rfl ?_ (hw := wanted_g (e := 50) (b' := true) rfl (by simp [hz_a6]) rfl)
      refine ListK.bin (i := 16) (u := .int .i64 (xs.length + ds.length)) (u' := .int .i64 (blameV o t l).length) (v := .int .i64 ((xs.length + ds.length) + (blameV o t l).length)) rfl (by simp [hz_a6]) (by simp [hz_a6]) (add3 (by omega) (by omega) _) ?_ (hw := wanted_g (e := 50) (b' := true) rfl (by simp [hz_a6]) rfl)
      refine ListK.bin (i := 17) (u := .int .i64 ((xs.length + ds.length) + (blameV o t l).length)) (u' := .int .i64 0) (v := .bool true) rfl (by simp [hz_a6]) (by simp) (eql3T (by omega) _) ?_ (hw := wanted_g (e := 50) (b' := true) rfl (by simp [hz_a6]) rfl)
      refine ListK.pick (i := 18) (b := true) (v := .bool true) rfl (by simp [hz_a6]) (by simp [hz_a6]) ?_
      refine ListK.move (i := 19) (v := .bool true) rfl (by simp [hz_a6]) ?_
      refine ListK.call (i := 20) (vs := #[]) rfl (enters_of Try.func16 (by kernel_rfl) rfl) (by simp) (((wakes_any W7)).mono ?_) (hw := wanted_g (e := 61) (b' := true) rfl (by simp [hz_a6]) rfl)
      rintro _ W8 ⟨rfl, hb_j⟩
      have hL_j := hB1.trans (hb_j.mono (by have := hB1.size; omega))
      replace hs := (hs.below hb_j (Nat.le_refl _)).more hb_j.size
      replace wb := wb.below hb_j wb.lt
      replace hB1 := hL_j
      replace hlt : b3 < W8.heap.size := wb.lt
      refine ⟨_, rfl, ?_⟩
      refine ListK.pick (i := 21) (b := true) (v := .bool true) rfl (by simp [hz_a6]) (by simp [hz_a6]) ?_
      refine ListK.assign (i := 22) (v := .bool true) rfl (by simp [hz_a6]) ?_
      refine ListK.done (hK _ _ (wpIn_ret ?_))
      exact hret _ _ (by simp only [defers_put, hd_a6]) (by simp [hz_a6]) hB1
end Go.Proofs.Ytfcnombmphophaa

namespace Go.Proofs.Ytfcnombmphophaa
open Go.RowKit Go.Shelf
theorem stepE_le (l : List Sale) (d : Nat) (E : Nat → Int) (k e : Nat) : stepE l d E k e ≤ E e := by
  unfold stepE
  split
  · unfold upd
    split
    · rename_i h
      subst h
      omega
    · exact Int.le_refl _
  · exact Int.le_refl _
theorem foldE_le (l : List Sale) (d : Nat) : ∀ (ks : List Nat) (E : Nat → Int) (e : Nat), (ks.foldl (stepE l d) E) e ≤ E e
  | [], _, _ => Int.le_refl _
  | k :: ks, E, e => Int.le_trans (foldE_le l d ks (stepE l d E k) e) (stepE_le l d E k e)
theorem stepE_low {l : List Sale} {d k e : Nat} (hb : d.testBit k = false) (he : e ≤ d) (E : Nat → Int) : stepE l d E k e = E e := by
  unfold stepE
  split
  · unfold upd
    rw [if_neg (by have := or_gt hb; omega)]
  · rfl
theorem foldE_low {l : List Sale} {d e : Nat} (he : e ≤ d) : ∀ (ks : List Nat), (∀ k, k ∈ ks → d.testBit k = false) → ∀ E : Nat → Int, (ks.foldl (stepE l d) E) e = E e
  | [], _, _ => rfl
  | k :: ks, h, E => (foldE_low he ks (fun j hj => h j (List.mem_cons_of_mem _ hj)) _).trans (stepE_low (h k List.mem_cons_self) he E)
theorem foldE_hit {l : List Sale} {d k : Nat} : ∀ (ks : List Nat), (∀ j, j ∈ ks → d.testBit j = false) → k ∈ ks → ∀ E : Nat → Int, max (E d) (saleOf l k).lo ≤ (saleOf l k).hi → (ks.foldl (stepE l d) E) (d ||| 2 ^ k) ≤ max (E d) (saleOf l k).lo
  | [], _, h, _, _ => by cases h
  | j :: ks, hb, hk, E, hle => by
    by_cases e : j = k
    · subst e
      refine Int.le_trans (foldE_le l d ks _ _) ?_
      unfold stepE
      rw [if_pos hle]
      unfold upd
      rw [if_pos rfl]
      omega
    · have hk' : k ∈ ks := by
        rcases List.mem_cons.1 hk with h | h
        · exact absurd h.symm e
        · exact h
      have hd := stepE_low (l := l) (hb j List.mem_cons_self) (Nat.le_refl d) E
      have := foldE_hit ks (fun i hi => hb i (List.mem_cons_of_mem _ hi)) hk' (stepE l d E j) (by rw [hd]; exact hle)
      rwa [hd] at this
theorem next_bits (t : Int) (l : List Sale) (d : Nat) : ∀ k, k ∈ nextL t l d → d.testBit k = false := by
  intro k hk
  have := (List.mem_filter.1 hk).2
  simp [nextB] at this
  exact this.2.1
theorem earlyTo_low (t : Int) (l : List Sale) {e : Nat} : ∀ j, e ≤ j → earlyTo t l j e = earlyTo t l e e := by
  intro j
  induction j with
  | zero => intro h; rw [show e = 0 by omega]
  | succ j ih =>
    intro h
    by_cases e1 : e = j + 1
    · rw [e1]
    · rw [← ih (by omega)]
      conv => lhs; unfold earlyTo
      split
      · rfl
      · exact foldE_low (by omega) _ (next_bits t l j) _
theorem earlyTo_mono (t : Int) (l : List Sale) (e : Nat) : ∀ j i, earlyTo t l (j + i) e ≤ earlyTo t l j e
  | j, 0 => Int.le_refl _
  | j, i + 1 => by
    refine Int.le_trans ?_ (earlyTo_mono t l e j i)
    show earlyTo t l (j + i + 1) e ≤ _
    conv => lhs; unfold earlyTo
    split
    · exact Int.le_refl _
    · exact foldE_le l _ _ _ _
theorem early_at (t : Int) (l : List Sale) {d : Nat} (h : d < 2 ^ l.length) : early t l d = earlyTo t l d d := earlyTo_low t l _ (by omega)
/-- One sale on. -/
theorem early_step {t : Int} {l : List Sale} {d k : Nat} (hd : d < 2 ^ l.length) (h1 : early t l d ≠ 101) (hn : nextB t l d k = true) (hle : max (early t l d) (saleOf l k).lo ≤ (saleOf l k).hi) : early t l (d ||| 2 ^ k) ≤ max (early t l d) (saleOf l k).lo := by
  rw [early_at t l hd] at h1 hle ⊢
  have hk : k < l.length := by simp [nextB] at hn; exact hn.1
  have hm := earlyTo_mono t l (d ||| 2 ^ k) (d + 1) (2 ^ l.length - (d + 1))
  rw [show d + 1 + (2 ^ l.length - (d + 1)) = 2 ^ l.length by omega] at hm
  refine Int.le_trans hm ?_
  conv => lhs; unfold earlyTo
  rw [if_neg h1]
  exact foldE_hit _ (next_bits t l d) (List.mem_filter.2 ⟨List.mem_range.2 hk, hn⟩) _ hle
theorem path_early {o t : Int} {l : List Sale} (hv : Valid o t l) : ∀ (ns : List Nat) (d : Nat) (x : Int), d < 2 ^ l.length → PathOk t l d x ns → early t l d ≤ x → x ≤ 100 → early t l (2 ^ l.length - 1) ≤ 100
  | [], d, x, _, h, h1, h2 => by
    have : d = 2 ^ l.length - 1 := h
    rw [← this]
    omega
  | n :: ns, d, x, hd, ⟨h3, h4, h5⟩, h1, h2 => by
    have hn : n < l.length := by simp [nextB] at h3; exact h3.1
    have hf := hv.at_ (List.getElem?_eq_getElem hn)
    rw [← saleOf_eq (List.getElem?_eq_getElem hn)] at hf
    have hs := early_step hd (by omega) h3 (by omega)
    refine path_early hv ns _ _ ?_ h5 (by omega) (by omega)
    exact Nat.or_lt_two_pow hd (Nat.pow_lt_pow_right (by omega) hn)
theorem way_fits {o t : Int} {l : List Sale} (hv : Valid o t l) {ns : List Nat} (h : PathOk t l 0 0 ns) : fitsB t l = true := by
  have h0 : early t l 0 = 0 := by
    rw [early_at t l (Nat.two_pow_pos _)]
    simp [earlyTo, upd]
  have := path_early hv ns 0 0 (Nat.two_pow_pos _) h (by omega) (by omega)
  unfold fitsB
  simp
  omega
end Go.Proofs.Ytfcnombmphophaa

namespace Go.Proofs.Ytfcnombmphophaa
open Go.RowKit Go.Shelf
/-- A list of sales and a set of them, as one. -/
structure Same (t : Int) (l : List Sale) (pre : List Int) (d : Nat) : Prop where
  bits : ∀ m : Nat, d.testBit m = hasI pre m
  st : ∀ i : Nat, stocksOf t l d i = stockR t l pre i
  lt : d < 2 ^ l.length
  cnt : cnt d l.length = pre.length
theorem Same.zero (t : Int) (l : List Sale) : Same t l [] 0 := by
  refine ⟨fun m => by simp [hasI], fun i => ?_, Nat.two_pow_pos _, cnt_zero _⟩
  unfold stocksOf
  rw [stocksTo_zero]
  unfold stockR upd
  simp
theorem Same.snoc {o t : Int} {l : List Sale} (hv : Valid o t l) {pre : List Int} {d n : Nat} (h : Same t l pre d) (hn : n < l.length) (hb : d.testBit n = false) : Same t l (pre ++ [(n : Int)]) (d ||| 2 ^ n) := by
  have hf := hv.at_ (List.getElem?_eq_getElem hn)
  rw [← saleOf_eq (List.getElem?_eq_getElem hn)] at hf
  refine ⟨fun m => ?_, fun i => ?_, Nat.or_lt_two_pow h.lt (Nat.pow_lt_pow_right (by omega) hn), ?_⟩
  · rw [hasI_app, Nat.testBit_or, h.bits m]
    congr 1
    by_cases e : n = m
    · subst e
      simp
    · rw [Nat.testBit_two_pow_of_ne e]
      symm
      simp
      omega
  · rw [stocksOf_or hb hn, stockR_app]
    exact sold_step hn hf.1 hf.2.2.1 hf.2.2.2.2.1 (h.st i)
  · rw [cnt_or hb, if_pos hn, h.cnt]
    simp
theorem may_next {o t : Int} {l : List Sale} (hv : Valid o t l) {pre : List Int} {d n : Nat} {la : Int} (h : Same t l pre d) (hn : n < l.length) :
    mayR t l pre la n (max la (saleOf l n).lo) = (nextB t l d n && decide (max la (saleOf l n).lo ≤ (saleOf l n).hi)) := by
  have hf := hv.at_ (List.getElem?_eq_getElem hn)
  rw [← saleOf_eq (List.getElem?_eq_getElem hn)] at hf
  have hst : stocksOf t l d (saleOf l n).src.toNat = stockR t l pre (saleOf l n).src := by
    rw [h.st, Int.toNat_of_nonneg hf.1]
  unfold mayR nextB
  rw [Int.toNat_natCast, ← h.bits n, hst, Bool.eq_iff_iff]
  simp only [Bool.and_eq_true, decide_eq_true_eq, inR_iff, Bool.not_eq_true']
  constructor
  · rintro ⟨a, ⟨b1, b2⟩, b3, b4⟩
    exact ⟨⟨hn, a, b4⟩, b2⟩
  · rintro ⟨⟨_, a, b4⟩, b2⟩
    exact ⟨a, ⟨by omega, b2⟩, by omega, b4⟩
theorem cnt_le (d : Nat) : ∀ n, cnt d n ≤ n
  | 0 => Nat.le_refl _
  | n + 1 => by
    have := cnt_le d n
    unfold cnt
    split <;> omega
theorem cnt_full {d : Nat} : ∀ n, cnt d n = n → ∀ m, m < n → d.testBit m = true
  | 0, _, _, h => by omega
  | n + 1, h, m, hm => by
    have hle := cnt_le d n
    unfold cnt at h
    split at h
    · rename_i hb
      by_cases e : m = n
      · rw [e]; exact hb
      · exact cnt_full n (by omega) m (by omega)
    · omega
theorem full_of_cnt {d n : Nat} (hd : d < 2 ^ n) (h : cnt d n = n) : d = 2 ^ n - 1 := by
  apply Nat.eq_of_testBit_eq
  intro m
  rw [Nat.testBit_two_pow_sub_one]
  by_cases hm : m < n
  · rw [cnt_full n h m hm]
    simp [hm]
  · rw [Nat.testBit_lt_two_pow (Nat.lt_of_lt_of_le hd (Nat.pow_le_pow_right (by omega) (by omega)))]
    simp [hm]
theorem can_path {o t : Int} {l : List Sale} (hv : Valid o t l) : ∀ (f : Nat) (pre : List Int) (la : Int) (d : Nat), pre.length + f = l.length → Same t l pre d → (canGo t l f pre la = true ↔ ∃ ns, PathOk t l d la ns)
  | 0, pre, la, d, hf, h => by
    have h1 : canGo t l 0 pre la = true := by simp [canGo]; omega
    rw [h1]
    simp only [true_iff]
    exact ⟨[], full_of_cnt h.lt (by rw [h.cnt]; omega)⟩
  | f + 1, pre, la, d, hf, h => by
    have hne : (pre.length == l.length) = false := by simp; omega
    rw [canGo, hne, Bool.false_or, List.any_eq_true]
    constructor
    · rintro ⟨n, hn, hb⟩
      rw [List.mem_range] at hn
      rw [Bool.and_eq_true, may_next hv h hn, Bool.and_eq_true, decide_eq_true_eq] at hb
      have hbit : d.testBit n = false := by
        have := hb.1.1
        simp [nextB] at this
        exact this.2.1
      obtain ⟨ns, hns⟩ := (can_path hv f (pre ++ [(n : Int)]) _ (d ||| 2 ^ n) (by simp; omega) (h.snoc hv hn hbit)).1 hb.2
      exact ⟨n :: ns, hb.1.1, hb.1.2, hns⟩
    · rintro ⟨ns, hns⟩
      cases ns with
      | nil =>
        exfalso
        have : d = 2 ^ l.length - 1 := hns
        have hc := h.cnt
        rw [this, cnt_all _ _ (Nat.le_refl _)] at hc
        omega
      | cons n ns =>
        obtain ⟨h1, h2, h3⟩ := hns
        have hn : n < l.length := by simp [nextB] at h1; exact h1.1
        have hbit : d.testBit n = false := by simp [nextB] at h1; exact h1.2.1
        refine ⟨n, List.mem_range.2 hn, ?_⟩
        rw [Bool.and_eq_true, may_next hv h hn, Bool.and_eq_true, decide_eq_true_eq]
        exact ⟨⟨h1, h2⟩, (can_path hv f (pre ++ [(n : Int)]) _ (d ||| 2 ^ n) (by simp; omega) (h.snoc hv hn hbit)).2 ⟨ns, h3⟩⟩
theorem fits_can {o t : Int} {l : List Sale} (hv : Valid o t l) : fitsB t l = canGo t l l.length [] 0 := by
  rw [Bool.eq_iff_iff, can_path hv l.length [] 0 0 (by simp) (Same.zero t l)]
  exact ⟨fun h => fits_way hv h, fun ⟨ns, h⟩ => way_fits hv h⟩
end Go.Proofs.Ytfcnombmphophaa

namespace Go.Proofs.Ytfcnombmphophaa
open Go.RowKit Go.Shelf
theorem lexLt_irr : ∀ a : List Int, lexLt a a = false
  | [] => rfl
  | x :: xs => by rw [lexLt, if_pos rfl]; exact lexLt_irr xs
theorem lexLt_trans : ∀ a b c : List Int, lexLt a b = true → lexLt b c = true → lexLt a c = true
  | [], _, _, h, _ => by cases h
  | x :: xs, [], _, h, _ => by cases h
  | x :: xs, y :: ys, [], _, h => by cases h
  | x :: xs, y :: ys, z :: zs, h1, h2 => by
    rw [lexLt] at h1 h2 ⊢
    split at h1
    · rename_i e
      subst e
      split at h2
      · rename_i e
        subst e
        rw [if_pos rfl]
        exact lexLt_trans xs ys zs h1 h2
      · rename_i e
        rw [if_neg e]
        exact h2
    · rename_i e
      simp only [decide_eq_true_eq] at h1
      split at h2
      · rename_i e2
        subst e2
        rw [if_neg e]
        simpa using h1
      · simp only [decide_eq_true_eq] at h2
        rw [if_neg (by omega)]
        simp
        omega
theorem lexLt_eq : ∀ a b : List Int, a.length = b.length → lexLt a b = false → lexLt b a = false → a = b
  | [], [], _, _, _ => rfl
  | [], _ :: _, h, _, _ => by simp at h
  | _ :: _, [], h, _, _ => by simp at h
  | x :: xs, y :: ys, h, h1, h2 => by
    rw [lexLt] at h1 h2
    by_cases e : x = y
    · subst e
      rw [if_pos rfl] at h1 h2
      rw [lexLt_eq xs ys (by simpa using h) h1 h2]
    · rw [if_neg e] at h1
      rw [if_neg (Ne.symm e)] at h2
      simp at h1 h2
      omega
theorem lessR_irr (a : List Int) : lessR a a = false := by unfold lessR; rw [if_pos rfl]; exact lexLt_irr a
theorem lessR_trans {a b c : List Int} (h1 : lessR a b = true) (h2 : lessR b c = true) : lessR a c = true := by
  unfold lessR at *
  split at h1
  · split at h2
    · rw [if_pos (by omega)]
      exact lexLt_trans a b c h1 h2
    · simp only [decide_eq_true_eq] at h2
      rw [if_neg (by omega)]
      simp
      omega
  · simp only [decide_eq_true_eq] at h1
    split at h2
    · rw [if_neg (by omega)]
      simp
      omega
    · simp only [decide_eq_true_eq] at h2
      rw [if_neg (by omega)]
      simp
      omega
theorem lessR_eq {a b : List Int} (h1 : lessR a b = false) (h2 : lessR b a = false) : a = b := by
  unfold lessR at *
  by_cases e : a.length = b.length
  · rw [if_pos e] at h1
    rw [if_pos e.symm] at h2
    exact lexLt_eq a b e h1 h2
  · rw [if_neg e] at h1
    rw [if_neg (Ne.symm e)] at h2
    simp at h1 h2
    omega
theorem listTo_more {d n : Nat} (hd : d < 2 ^ n) : ∀ m, n ≤ m → listTo d m = listTo d n := by
  intro m
  induction m with
  | zero => intro h; rw [show n = 0 by omega]
  | succ m ih =>
    intro h
    by_cases e : n = m + 1
    · rw [e]
    · unfold listTo
      rw [Nat.testBit_lt_two_pow (Nat.lt_of_lt_of_le hd (Nat.pow_le_pow_right (by omega) (by omega)))]
      simp
      rw [ih (by omega)]
      cases n with
      | zero => rfl
      | succ n => rfl
theorem listTo_has (d : Nat) (k : Nat) : ∀ n, hasI (listTo d n) k = (d.testBit k && decide (k < n))
  | 0 => by simp [listTo, hasI]
  | n + 1 => by
    unfold listTo
    by_cases hb : d.testBit n = true
    · rw [if_pos hb, hasI_app, listTo_has d k n]
      by_cases e : n = k
      · subst e
        simp [hb]
      · have : ((n : Int) == (k : Int)) = false := by simp; omega
        rw [this, Bool.or_false]
        congr 1
        simp only [decide_eq_decide]
        omega
    · rw [if_neg hb, listTo_has d k n]
      by_cases e : n = k
      · subst e
        simp at hb
        simp [hb]
      · congr 1
        simp only [decide_eq_decide]
        omega
theorem out_without (l : List Sale) (d n : Nat) : ∀ k, k ≤ n → outTo l (listTo d n) k = withoutTo l d k
  | 0, _ => rfl
  | k + 1, h => by
    unfold outTo withoutTo
    rw [listTo_has, out_without l d n k (by omega)]
    simp [show k < n by omega]
end Go.Proofs.Ytfcnombmphophaa

namespace Go.Proofs.Ytfcnombmphophaa
open Go.RowKit Go.Shelf
theorem cmp_lex : ∀ x y : List Int, x.length = y.length → (cmpL x y < 0 ↔ lexLt x y = true)
  | [], [], _ => by simp [cmpL, lexLt]
  | [], _ :: _, h => by simp at h
  | _ :: _, [], h => by simp at h
  | x :: xs, y :: ys, h => by
    rw [cmpL, lexLt]
    by_cases e : x = y
    · subst e
      rw [if_pos rfl, if_neg (by simp [cmpI])]
      exact cmp_lex xs ys (by simpa using h)
    · rw [if_neg e]
      unfold cmpI
      by_cases h1 : x < y
      · simp [h1]
      · have h2 : y < x := by omega
        simp [h1, h2]
/-- The least list of sales without which a batch does not contradict itself. -/
def Least (t : Int) (l : List Sale) (x : List Int) : Prop :=
  ∃ d, d < 2 ^ l.length ∧ fitsB t (withoutL l d) = true ∧ x = listTo d l.length ∧ ∀ d', d' < 2 ^ l.length → fitsB t (withoutL l d') = true → lessR (listTo d' l.length) x = false
theorem Least.eq {t : Int} {l : List Sale} {x y : List Int} (h1 : Least t l x) (h2 : Least t l y) : x = y := by
  obtain ⟨d, a1, a2, rfl, a3⟩ := h1
  obtain ⟨e, b1, b2, rfl, b3⟩ := h2
  exact lessR_eq (b3 d a1 a2) (a3 e b1 b2)
theorem without_all (l : List Sale) : ∀ n, n ≤ l.length → withoutTo l (2 ^ l.length - 1) n = []
  | 0, _ => rfl
  | n + 1, h => by
    unfold withoutTo
    rw [Nat.testBit_two_pow_sub_one]
    rw [if_pos (by simp; omega)]
    exact without_all l n (by omega)
theorem whole_fits {o t : Int} {l : List Sale} (hv : Valid o t l) : fitsB t (withoutL l (2 ^ l.length - 1)) = true := by
  have hw := valid_without hv (2 ^ l.length - 1)
  have e : withoutL l (2 ^ l.length - 1) = [] := without_all l _ (Nat.le_refl _)
  rw [e] at hw ⊢
  exact way_fits hw (ns := []) rfl
theorem few_can {o t : Int} {l : List Sale} (hv : Valid o t l) (d : Nat) : canGo t (outL l (listTo d l.length)) (outL l (listTo d l.length)).length [] 0 = fitsB t (withoutL l d) := by
  have e : outL l (listTo d l.length) = withoutL l d := out_without l d l.length l.length (Nat.le_refl _)
  rw [e]
  exact (fits_can (valid_without hv d)).symm
theorem few_inv {o t : Int} {l : List Sale} (hv : Valid o t l) : ∀ b, b ≤ 2 ^ l.length → ∃ d, d < 2 ^ l.length ∧ fitsB t (withoutL l d) = true ∧ fewTo t l b = listTo d l.length ∧ ∀ d', d' < b → fitsB t (withoutL l d') = true → lessR (listTo d' l.length) (fewTo t l b) = false
  | 0, _ => ⟨2 ^ l.length - 1, by have := Nat.two_pow_pos l.length; omega, whole_fits hv, rfl, fun d' h => by omega⟩
  | b + 1, hb => by
    obtain ⟨d, h1, h2, h3, h4⟩ := few_inv hv b (by omega)
    unfold fewTo
    rw [few_can hv b]
    split
    · rename_i hc
      rw [Bool.and_eq_true] at hc
      refine ⟨b, by omega, hc.2, rfl, fun d' hd' hf => ?_⟩
      by_cases e : d' = b
      · rw [e]; exact lessR_irr _
      · have := h4 d' (by omega) hf
        cases hl : lessR (listTo d' l.length) (listTo b l.length) with
        | false => rfl
        | true => rw [lessR_trans hl hc.1] at this; cases this
    · rename_i hc
      refine ⟨d, h1, h2, h3, fun d' hd' hf => ?_⟩
      by_cases e : d' = b
      · subst e
        rw [hf, Bool.and_true] at hc
        simpa using hc
      · exact h4 d' (by omega) hf
theorem few_least {o t : Int} {l : List Sale} (hv : Valid o t l) : Least t l (fewestR t l) := by
  obtain ⟨d, h1, h2, h3, h4⟩ := few_inv hv (2 ^ l.length) (Nat.le_refl _)
  exact ⟨d, h1, h2, h3, h4⟩
theorem blameOk_iff {t : Int} {l : List Sale} {m d : Nat} : blameOk t l m d = true ↔ (listTo d 8).length = m ∧ fitsB t (withoutL l d) = true := by
  unfold blameOk
  rw [Bool.and_eq_true, decide_eq_true_eq]
theorem blameIn_spec (t : Int) (l : List Sale) (m : Nat) : ∀ b, ((blameIn t l m b).2 = false → ∀ d, d < b → blameOk t l m d = false) ∧
    ((blameIn t l m b).2 = true → ∃ d, d < b ∧ blameOk t l m d = true ∧ (blameIn t l m b).1 = listTo d 8 ∧ ∀ d', d' < b → blameOk t l m d' = true → lexLt (listTo d' 8) (listTo d 8) = false)
  | 0 => ⟨fun _ d h => by omega, fun h => by cases h⟩
  | b + 1 => by
    obtain ⟨ih1, ih2⟩ := blameIn_spec t l m b
    unfold blameIn blameStep
    generalize blameIn t l m b = acc at *
    obtain ⟨best, found⟩ := acc
    simp only at ih1 ih2 ⊢
    by_cases hok : blameOk t l m b = true
    · rw [if_pos hok]
      cases hfd : found with
      | false =>
        rw [if_pos (Or.inl rfl)]
        refine ⟨fun h => (by cases h), fun _ => ⟨b, by omega, hok, rfl, fun d' hd' hk => ?_⟩⟩
        by_cases e : d' = b
        · rw [e]; exact lexLt_irr _
        · rw [ih1 hfd d' (by omega)] at hk; cases hk
      | true =>
        obtain ⟨d, h1, h2, rfl, h4⟩ := ih2 hfd
        have hlen : (listTo b 8).length = (listTo d 8).length := by rw [(blameOk_iff.1 hok).1, (blameOk_iff.1 h2).1]
        by_cases hc : cmpL (listTo b 8) (listTo d 8) < 0
        · rw [if_pos (Or.inr hc)]
          have hlx := (cmp_lex _ _ hlen).1 hc
          refine ⟨fun h => (by cases h), fun _ => ⟨b, by omega, hok, rfl, fun d' hd' hk => ?_⟩⟩
          by_cases e : d' = b
          · rw [e]; exact lexLt_irr _
          · have := h4 d' (by omega) hk
            cases hl : lexLt (listTo d' 8) (listTo b 8) with
            | false => rfl
            | true => rw [lexLt_trans _ _ _ hl hlx] at this; cases this
        · rw [if_neg (by simp [hc])]
          refine ⟨fun h => (by cases h), fun _ => ⟨d, by omega, h2, rfl, fun d' hd' hk => ?_⟩⟩
          by_cases e : d' = b
          · rw [e]
            cases hl : lexLt (listTo b 8) (listTo d 8) with
            | false => rfl
            | true => exact absurd ((cmp_lex _ _ hlen).2 hl) hc
          · exact h4 d' (by omega) hk
    · rw [if_neg hok]
      refine ⟨fun h d hd => ?_, fun h => ?_⟩
      · by_cases e : d = b
        · rw [e]; simpa using hok
        · exact ih1 h d (by omega)
      · obtain ⟨d, h1, h2, h3, h4⟩ := ih2 h
        refine ⟨d, by omega, h2, h3, fun d' hd' hk => ?_⟩
        by_cases e : d' = b
        · rw [e] at hk; exact absurd hk hok
        · exact h4 d' (by omega) hk
theorem blameGo_least {o t : Int} {l : List Sale} (hv : Valid o t l) : ∀ (f m : Nat), m + f = l.length + 1 → (∀ d, d < 2 ^ l.length → fitsB t (withoutL l d) = true → m ≤ (listTo d l.length).length) → Least t l (blameGo t l f m)
  | 0, m, h, hm => by
    exfalso
    have h1 := hm (2 ^ l.length - 1) (by have := Nat.two_pow_pos l.length; omega) (whole_fits hv)
    have := listTo_length (2 ^ l.length - 1) l.length
    omega
  | f + 1, m, h, hm => by
    have hn8 := hv.len
    have hmore : ∀ d, d < 2 ^ l.length → listTo d 8 = listTo d l.length := fun d hd => listTo_more hd 8 hn8
    obtain ⟨h1, h2⟩ := blameIn_spec t l m (2 ^ l.length)
    unfold blameGo
    split
    · rename_i hf
      obtain ⟨d, hd, hok, he, hall⟩ := h2 hf
      rw [he, hmore d hd]
      have hok' := blameOk_iff.1 hok
      rw [hmore d hd] at hok'
      refine ⟨d, hd, hok'.2, rfl, fun d' hd' hf' => ?_⟩
      have hge := hm d' hd' hf'
      unfold lessR
      split
      · rename_i hl
        have := hall d' hd' (blameOk_iff.2 ⟨by rw [hmore d' hd', hl, hok'.1], hf'⟩)
        rwa [hmore d' hd', hmore d hd] at this
      · simp only [decide_eq_false_iff_not]
        omega
    · rename_i hf
      refine blameGo_least hv f (m + 1) (by omega) (fun d hd hfd => ?_)
      have hge := hm d hd hfd
      have hno := h1 (by simpa using hf) d hd
      by_cases e : (listTo d l.length).length = m
      · exfalso
        have : blameOk t l m d = true := blameOk_iff.2 ⟨by rw [hmore d hd]; exact e, hfd⟩
        rw [this] at hno
        cases hno
      · omega
theorem blame_few {o t : Int} {l : List Sale} (hv : Valid o t l) : blameL t l = fewestR t l :=
  (blameGo_least hv (l.length + 1) 0 (by omega) (fun _ _ _ => Nat.zero_le _)).eq (few_least hv)
end Go.Proofs.Ytfcnombmphophaa

namespace Go.Proofs.Ytfcnombmphophaa
open Go.RowKit Go.Shelf Go.ChangeShapes Go.WideShapes
section
variable {H : Type} {enc : TypeId × Value → H} {W : World} {r : Reach} {b0 : Nat}
theorem c3 : Try.prog.cellsOf 3 = 1 := by kernel_rfl
theorem c22 : Try.prog.cellsOf 22 = 1 := by kernel_rfl
theorem c71 : Try.prog.cellsOf 71 = 2 := by kernel_rfl
theorem c73 : Try.prog.cellsOf 73 = 5 := by kernel_rfl
theorem c24 : Try.prog.cellsOf 24 = 3 := by kernel_rfl
theorem get_int {n : Nat} {cs : List Value} {t i : Nat} {y : Option (DataW H × List MemPlace)} (ht : Try.prog.underlying t = some (.int .i64)) (h : DataW.trod enc Try.prog W 0 (fun _ => true) true n t ((cs.drop i).take 1) = y) (hy : ∃ z, y = some z) : ∃ x : Int, cs[i]? = some (.int .i64 x) := by
  obtain ⟨z, rfl⟩ := hy
  obtain ⟨x, hx, _, _⟩ := DataW.trod_int ht h
  refine ⟨x, ?_⟩
  have h2 : ((cs.drop i).take 1)[0]? = some (.int .i64 x) := by rw [hx]; rfl
  rw [List.getElem?_take, if_pos (by omega), List.getElem?_drop] at h2
  simpa using h2
theorem five {cs : List Value} {a b c d e : Value} (hl : cs.length = 5) (h0 : cs[0]? = some a) (h1 : cs[1]? = some b) (h2 : cs[2]? = some c) (h3 : cs[3]? = some d) (h4 : cs[4]? = some e) : cs = [a, b, c, d, e] := by
  match cs, hl with
  | [_, _, _, _, _], _ =>
    simp at h0 h1 h2 h3 h4
    subst h0 h1 h2 h3 h4
    rfl
theorem at_some {α : Type} {xs : List α} {n i : Nat} (h : xs.length = n) (hi : i < n) : ∃ z, xs[i]? = some z := ⟨_, List.getElem?_eq_getElem (by omega)⟩
set_option maxRecDepth 100000 in
/-- Five cells that read as a sale. -/
theorem open_sale {n : Nat} {cs : List Value} {x : DataW H × List MemPlace} (h : DataW.trod enc Try.prog W 0 (fun _ => true) true n 73 cs = some x) : ∃ s : Sale, cs = saleL s := by
  obtain ⟨xs, m, rfl, rfl, hl, hx, hi⟩ := DataW.trod_struct Try.underlying73 h
  rw [c73] at hl
  have h0 := (show DataW.trod enc Try.prog W 0 (fun _ => true) true m 3 ((cs.drop 0).take (Try.prog.cellsOf 3)) = xs[0]? from hi 0 _ rfl)
  have h1 := (show DataW.trod enc Try.prog W 0 (fun _ => true) true m 3 ((cs.drop 1).take (Try.prog.cellsOf 3)) = xs[1]? from hi 1 _ rfl)
  have h2 := (show DataW.trod enc Try.prog W 0 (fun _ => true) true m 3 ((cs.drop 2).take (Try.prog.cellsOf 3)) = xs[2]? from hi 2 _ rfl)
  have h3 := (show DataW.trod enc Try.prog W 0 (fun _ => true) true m 71 ((cs.drop 3).take (Try.prog.cellsOf 71)) = xs[3]? from hi 3 _ rfl)
  rw [c3] at h0 h1 h2
  rw [c71] at h3
  obtain ⟨a, p0⟩ := get_int Try.underlying3 h0 (at_some hx (by decide))
  obtain ⟨b, p1⟩ := get_int Try.underlying3 h1 (at_some hx (by decide))
  obtain ⟨c, p2⟩ := get_int Try.underlying3 h2 (at_some hx (by decide))
  obtain ⟨z, hz⟩ := at_some (i := 3) hx (by decide)
  rw [hz] at h3
  obtain ⟨ys, m', rfl, rfl, hl', hy, hj⟩ := DataW.trod_struct Try.underlying71 h3
  have k0 := (show DataW.trod enc Try.prog W 0 (fun _ => true) true m' 3 ((((cs.drop 3).take 2).drop 0).take (Try.prog.cellsOf 3)) = ys[0]? from hj 0 _ rfl)
  have k1 := (show DataW.trod enc Try.prog W 0 (fun _ => true) true m' 3 ((((cs.drop 3).take 2).drop 1).take (Try.prog.cellsOf 3)) = ys[1]? from hj 1 _ rfl)
  rw [c3] at k0 k1
  obtain ⟨d, k0⟩ := get_int Try.underlying3 k0 (at_some hy (by decide))
  obtain ⟨e, k1⟩ := get_int Try.underlying3 k1 (at_some hy (by decide))
  rw [List.getElem?_take, if_pos (by omega), List.getElem?_drop] at k0 k1
  exact ⟨⟨a, b, c, d, e⟩, five hl p0 p1 p2 k0 k1⟩
set_option maxRecDepth 100000 in
theorem open_batch {v : Value} {d : DataW H} {ps : List MemPlace} (hval : Value.okWide Try.prog W r b0 24 v) (hd : DataW.Trod enc Try.prog W 0 (fun _ => true) true 24 v d ps) :
    ∃ (o t : Int) (A : Option Addr) (l : List Sale) (c : Nat), v = .agg #[.int .i64 o, .int .i64 t, .slice A l.length c] ∧ SalesAt W W.heap.size A l := by
  unfold Value.okWide at hval
  rw [Try.underlying24] at hval
  obtain ⟨cs, rfl, hsz, _⟩ := hval
  rw [c24] at hsz
  obtain ⟨fuel, hf⟩ := hd
  obtain ⟨xs, m, rfl, _, hl, hx, hi⟩ := DataW.trod_struct Try.underlying24 hf
  have h0 := (show DataW.trod enc Try.prog W 0 (fun _ => true) true m 3 (((Value.agg cs).cells.toList.drop 0).take (Try.prog.cellsOf 3)) = xs[0]? from hi 0 _ rfl)
  have h1 := (show DataW.trod enc Try.prog W 0 (fun _ => true) true m 3 (((Value.agg cs).cells.toList.drop 1).take (Try.prog.cellsOf 3)) = xs[1]? from hi 1 _ rfl)
  have h2 := (show DataW.trod enc Try.prog W 0 (fun _ => true) true m 22 (((Value.agg cs).cells.toList.drop 2).take (Try.prog.cellsOf 22)) = xs[2]? from hi 2 _ rfl)
  rw [c3] at h0 h1
  rw [c22] at h2
  obtain ⟨o, h0⟩ := get_int Try.underlying3 h0 (at_some hx (by decide))
  obtain ⟨t, h1⟩ := get_int Try.underlying3 h1 (at_some hx (by decide))
  obtain ⟨z, hz⟩ := at_some (i := 2) hx (by decide)
  rw [hz] at h2
  have hcs : (Value.agg cs).cells.toList = cs.toList := by rfl
  rw [hcs] at h0 h1 h2
  have key : ∃ (A : Option Addr) (l : List Sale) (c : Nat), (cs.toList.drop 2).take 1 = [.slice A l.length c] ∧ SalesAt W W.heap.size A l := by
    rcases DataW.trod_slice Try.underlying22 h2 with ⟨h3, _⟩ | ⟨a, n, c, elems, rest, k, _, h3, _, _, hle, _, hlen, hel, _, _⟩
    · exact ⟨none, [], 0, h3, fun k x hx => by simp at hx⟩
    · rw [c73] at hel
      have hsale : ∀ i, i < n → ∃ s : Sale, W.cells? 0 (a.add (i * 5)) 5 = some (saleL s) := by
        intro i hi
        have h4 := hel i hi
        obtain ⟨y, hy⟩ := at_some (i := i) hlen hi
        rw [hy, Option.bind_eq_some_iff] at h4
        obtain ⟨cs', h5, h6⟩ := h4
        obtain ⟨s, rfl⟩ := open_sale h6
        exact ⟨s, h5⟩
      obtain ⟨f, hf⟩ : ∃ f : Nat → Sale, ∀ i, i < n → W.cells? 0 (a.add (i * 5)) 5 = some (saleL (f i)) :=
        ⟨fun i => if h : i < n then Classical.choose (hsale i h) else ⟨0, 0, 0, 0, 0⟩, fun i hi => by
          dsimp only
          rw [dif_pos hi]
          exact Classical.choose_spec (hsale i hi)⟩
      refine ⟨some a, (List.range n).map f, c, by rw [h3]; simp, ?_⟩
      intro k s hs
      rw [List.getElem?_map, Option.map_eq_some_iff] at hs
      obtain ⟨k', hk', rfl⟩ := hs
      obtain ⟨hkn, rfl⟩ : k < n ∧ k' = k := by
        have := List.getElem?_eq_some_iff.1 hk'
        obtain ⟨h7, h8⟩ := this
        simp at h7 h8
        exact ⟨h7, h8.symm⟩
      have hcl := (World.cells?_some (hf k' hkn)).2.2
      obtain ⟨b, off, spot⟩ := a
      have hspot : spot = none := by
        have hcl0 := (World.cells?_some (hf 0 (by omega))).2.2 0 (by omega)
        have := World.cell?_spot (w := W) (a := (Addr.add ⟨b, off, spot⟩ (0 * 5)).add 0) (v := .int .i64 (f 0).src) (by rw [hcl0]; rfl)
        simpa [Addr.add] using this
      subst hspot
      have hc : ∀ j, j < 5 → W.cell? ⟨b, off + k' * 5 + j, none⟩ = (saleL (f k'))[j]? := by
        intro j hj
        have := hcl j hj
        rwa [add_plain, add_plain] at this
      have g0 := hc 0 (by omega)
      have g1 := hc 1 (by omega)
      have g2 := hc 2 (by omega)
      have g3 := hc 3 (by omega)
      have g4 := hc 4 (by omega)
      exact ⟨b, off, rfl, block_lt_of_cell (v := .int .i64 (f k').src) g0, g0, g1, g2, g3, g4⟩
  obtain ⟨A, l, c, h3, hs⟩ := key
  refine ⟨o, t, A, l, c, ?_, hs⟩
  have h4 : cs.toList[2]? = some (.slice A l.length c) := by
    have : ((cs.toList.drop 2).take 1)[0]? = some (.slice A l.length c) := by rw [h3]; rfl
    rw [List.getElem?_take, if_pos (by omega), List.getElem?_drop] at this
    simpa using this
  have h5 : cs.toList = [.int .i64 o, .int .i64 t, .slice A l.length c] := by
    have hl3 : cs.toList.length = 3 := by simpa using hsz
    generalize cs.toList = ls at *
    match ls, hl3 with
    | [_, _, _], _ =>
      simp at h0 h1 h4
      subst h0 h1 h4
      rfl
  have : cs = #[.int .i64 o, .int .i64 t, .slice A l.length c] := by
    apply Array.ext'
    rw [h5]
  rw [this]
end
/-- A READING IS CARRIED OVER WHATEVER LIES BEHIND. -/
theorem laidOut : laidOutB Try.prog = true := by kernel_rfl
theorem r24 : Try.prog.readableRec 24 = true := by kernel_rfl
end Go.Proofs.Ytfcnombmphophaa

namespace Go.Proofs.Ytfcnombmphophaa
open Go.RowKit Go.Shelf Go.ChangeShapes Go.WideShapes
theorem carry_trod {H : Type} {enc : TypeId × Value → H} {W W' : World} {t : TypeId} {v : Value} {d : DataW H} {ps : List MemPlace} (hr : Try.prog.readableRec t = true) (hrow : t < Try.prog.types.size) (hb : Below W.heap.size W W')
    (hd : DataW.Trod enc Try.prog W 0 (fun _ => true) true t v d ps) (hlt : ∀ p ∈ ps, p.block < W.heap.size) : DataW.Trod enc Try.prog W' 0 (fun b => decide (b < W.heap.size)) true t v d ps := by
  obtain ⟨n, h⟩ := hd
  exact ⟨n, DataW.trod_stays (kids_book laidOut hr) (book_sized hr) (fun h => by cases h) ⟨hrow, book_self t⟩ h
    (fun p hp => (hb.frame (fun _ => False)).sameAt (hlt p hp) id (fun b e => by
      have := DataW.trod_good (kids_book laidOut hr) (fun h => by cases h) n t _ _ ⟨hrow, book_self t⟩ h p hp
      subst e
      exact this))
    (fun p hp => by simpa using hlt p hp)⟩
theorem s24 : 24 < Try.prog.types.size := of_decide_eq_true (by kernel_rfl)
end Go.Proofs.Ytfcnombmphophaa
