/- Texts for the laws of package file, part 1: contracts of the program's functions, each for every input that its words name. -/
import Derived.Test.YtmdlmmfbcnkanaaRProg
import Derived.Below
import Derived.Laws.Rows
import Derived.WalkKit
import Derived.WalkSpells
import Derived.WalkLawsBesides
import Derived.Lib.Hide
import Derived.Deep.QuietTactic
import Derived.BigQuiet
import Derived.BigRegion
import Derived.RangeFuncNested
import Derived.RangeFuncBound
import Derived.RangeFuncCalls
import Derived.RangeFuncLeaves
import Derived.Shelf.Abstract
import Derived.Shelf.RegionOpen
import Derived.OwnWalkIn
import Derived.TacticsInMore
import Derived.LoopNIn
import Derived.LoopIn
import Derived.OrdersHeld
import Derived.OrdersIn
import Derived.Deep.RegionHeld3
import Derived.Deep.AppendLies
import Derived.Laws.EntriesVeiled
import Derived.Scope
import Derived.ChangeKeysEq
import Derived.OpenShut
import Derived.ChangeBook
import Derived.ChangeStays
import Derived.Deep.Frames

set_option linter.unusedVariables false
set_option maxRecDepth 10000

namespace Go.Proofs.YtmdlmmfbcnkanaaR
open Go.RowKit Go.Shelf
/-- A slice of ints at address A reads as l, below block B. -/
def IntsAt (w : World) (B : Nat) (A : Option Addr) (l : List Int) : Prop :=
  ∀ k x, l[k]? = some x → ∃ b off, A = some ⟨b, off, none⟩ ∧ b < B ∧ w.cell? ⟨b, off + k, none⟩ = some (.int .i64 x)
theorem IntsAt.keep {w w' : World} {B : Nat} {A : Option Addr} {l : List Int} (h : IntsAt w B A l) (hk : ∀ b o, b < B → w'.cell? ⟨b, o, none⟩ = w.cell? ⟨b, o, none⟩) : IntsAt w' B A l := by
  intro k x hx
  obtain ⟨b, off, hA, hb, hc⟩ := h k x hx
  exact ⟨b, off, hA, hb, (hk b _ hb).trans hc⟩
theorem IntsAt.below {w w' : World} {B B' : Nat} {A : Option Addr} {l : List Int} (h : IntsAt w B A l) (hb : Below B' w w') (hB : B ≤ B') : IntsAt w' B A l :=
  h.keep fun b o hlt => hb.cell (p := ⟨b, o, none⟩) (Nat.lt_of_lt_of_le hlt hB)
theorem IntsAt.more {w : World} {B B' : Nat} {A : Option Addr} {l : List Int} (h : IntsAt w B A l) (hB : B ≤ B') : IntsAt w B' A l := by
  intro k x hx
  obtain ⟨b, off, hA, hb, hc⟩ := h k x hx
  exact ⟨b, off, hA, by omega, hc⟩

theorem cell_new1 (w : World) (v : Value) (t : TypeId) : (w.alloc (.cells #[v] t)).cell? ⟨w.heap.size, 0, none⟩ = some v := by
  rw [cell_of_row _ _ _ _ _ _ (heap_alloc_new w (.cells #[v] t))]
  rfl
/-- Is a number from lo to hi? -/
def inR (n lo hi : Int) : Bool := decide (lo ≤ n ∧ n ≤ hi)
theorem inR_iff {n lo hi : Int} : inR n lo hi = true ↔ lo ≤ n ∧ n ≤ hi := by simp [inR]
def upd (st : Nat → Int) (i : Nat) (v : Int) : Nat → Int := fun j => if j = i then v else st j
/-- A block that is known whole. -/
def Whole (w : World) (g : Nat) (t : TypeId) (cs : Array Value) : Prop := w.heap[g]? = some (.cells cs t (0, 0))
section
variable {w w' : World} {g : Nat} {t : TypeId} {cs : Array Value}
theorem Whole.lt (h : Whole w g t cs) : g < w.heap.size := (Array.getElem?_eq_some_iff.1 h).1
theorem Whole.cell (h : Whole w g t cs) (i : Nat) : w.cell? ⟨g, i, none⟩ = cs[i]? := cell_of_row w g i cs t (0, 0) h
theorem Whole.frozen (h : Whole w g t cs) (i : Nat) : w.frozen? ⟨g, i, none⟩ = false := by
  unfold Whole at h
  simp [World.frozen?, h]
theorem Whole.new (w : World) (t : TypeId) (cs : Array Value) : Whole (w.alloc (.cells cs t)) w.heap.size t cs := heap_alloc_new w _
theorem Whole.alloc (h : Whole w g t cs) (o : Obj) : Whole (w.alloc o) g t cs := (Below.heap_alloc w o g h.lt).trans h
theorem Whole.set (h : Whole w g t cs) (i : Nat) (u : Value) : Whole (w.setCell ⟨g, i, none⟩ u) g t (cs.setIfInBounds i u) := by
  unfold Whole at h ⊢
  simp [World.setCell, Array.getElem?_modify, h]
theorem Whole.far (h : Whole w g t cs) {p : Addr} (hp : g ≠ p.block) (u : Value) : Whole (w.setCell p u) g t cs := (Below.heap_setCell w p u g hp).trans h
theorem Whole.below {B : Nat} (h : Whole w g t cs) (hb : Below B w w') (hg : g < B) : Whole w' g t cs := (hb.block g hg).trans h
end
/-- What a round keeps: all cells but those of the blocks of X. -/
structure KeepsC (X : Nat → Prop) (W W' : World) : Prop where
  size : W.heap.size ≤ W'.heap.size
  cells : ∀ b cs t z, ¬ X b → W.heap[b]? = some (.cells cs t z) → W'.heap[b]? = some (.cells cs t z)
section
variable {X : Nat → Prop} {W W' W'' : World}
theorem KeepsC.refl (X : Nat → Prop) (W : World) : KeepsC X W W := ⟨Nat.le_refl _, fun _ _ _ _ _ h => h⟩
theorem KeepsC.trans (h : KeepsC X W W') (k : KeepsC X W' W'') : KeepsC X W W'' := ⟨Nat.le_trans h.size k.size, fun b cs t z hb hc => k.cells b cs t z hb (h.cells b cs t z hb hc)⟩
theorem KeepsC.of_below (h : Below W.heap.size W W') : KeepsC X W W' := ⟨h.size, fun b _ _ _ _ hc => (h.block b (Array.getElem?_eq_some_iff.1 hc).1).trans hc⟩
theorem KeepsC.putObj (W : World) (l : Nat) (o o' : Obj) (h : W.heap[l]? = some o) (hc : o.isCells = false) : KeepsC X W (W.putObj l o') :=
  ⟨by simp [World.putObj], fun b cs t z _ hb => by
    have : b ≠ l := by
      rintro rfl
      rw [h] at hb
      cases hb
      cases hc
    rw [World.putObj_heap_other (by omega)]
    exact hb⟩
theorem KeepsC.cell (h : KeepsC X W W') {p : Addr} {v : Value} (hp : ¬ X p.block) (hc : W.cell? p = some v) : W'.cell? p = some v := by
  obtain ⟨o, ho, hcells⟩ := cells_of_cell hc
  cases o <;> simp [Obj.isCells] at hcells
  rename_i cs t z
  have h2 := h.cells _ cs t z hp ho
  rw [← hc]
  exact World.cell?_of_block (h2.trans ho.symm)
theorem KeepsC.whole (h : KeepsC X W W') {g : Nat} {t : TypeId} {cs : Array Value} (hg : ¬ X g) (hw : Whole W g t cs) : Whole W' g t cs := h.cells g cs t (0, 0) hg hw
end
attribute [local go_sem] Oper.semAt_some
theorem grown_of_below {W W' : World} (h : Below W.heap.size W W') : W.grownBy W' none := ⟨h.os, h.tape, h.output, h.size, fun k hk _ => h.block k hk⟩
section
variable {P : Program} {ops : Array Oper} {Q : Exit → Act → World → Prop} {md : Region.Mode} {Kp : Nat → World → World → Prop}
/-- One operation, by its number. -/
def opG (P : Program) (ops : Array Oper) (Q : Exit → Act → World → Prop) (i : Nat) (K : Act → World → Prop) (a : Act) (w : World) : Prop :=
  match ops[i]? with
  | none => K a w
  | some o => if Region.wanted o (yielded ops a.tmps) = true then o.wp P a w K Q else K (a.put o.dst undef) w

theorem opG_mono {i : Nat} {a : Act} {w : World} {K K' : Act → World → Prop} (h : ∀ a w, K a w → K' a w) (hh : opG P ops Q i K a w) : opG P ops Q i K' a w := by
  unfold opG at *
  split
  · exact h _ _ (by simpa [*] using hh)
  · rename_i o ho
    simp only [ho] at hh
    split
    · rename_i hw
      simp only [hw, if_true] at hh
      unfold Oper.wp at *
      generalize (execOp a.eval o).run P w = r at *
      cases r with
      | ok x w' =>
        cases x <;> simp only [Oper.upon] at hh ⊢ <;>
          first
            | exact h _ _ hh
            | exact Calls.mono hh (fun e w'' he => by cases e <;> first | exact h _ _ he | exact he)
            | exact Rows.mono hh (fun _ _ he => h _ _ he)
            | exact hh
      | halt x w' => cases x <;> simp only [Oper.upon] at hh ⊢ <;> exact hh
    · rename_i hw
      simp only [hw] at hh
      exact h _ _ hh

theorem opG_yields {R : World → Prop} {i : Nat} {o : Oper} {v : Value} {a : Act} (hi : ops[i]? = some o) (hy : YieldsIf P ops R o v a)
    {K : Act → World → Prop} {w : World} (hS : R w) (h : K (a.put o.dst v) w) : opG P ops Q i K a w := by
  unfold opG
  simp only [hi]
  rcases hy with ⟨hw, hv⟩ | ⟨hw, rfl⟩
  · simp only [hw, if_true, Oper.wp, hv w hS, Oper.upon]; exact h
  · simp only [hw, Bool.false_eq_true, if_false]; exact h

theorem opG_put {R : World → Prop} {j : Nat} {oi oj : Oper} {v : Value} (hj : ops[j]? = some oj) (hap : oi.apart ops oj = true)
    (hsi : ∀ cs b, oi.op ≠ .select cs b) (hsj : ∀ cs b, oj.op ≠ .select cs b)
    (hQ : ∀ c a w, Q (.panic c) (a.put oi.dst v) w → Q (.panic c) a w) {K : Act → World → Prop} {a : Act} {w : World}
    (hy : YieldsIf P ops R oi v a) (h : opG P ops Q j K (a.put oi.dst v) w) :
    opG P ops Q j (fun a' w' => YieldsIf P ops R oi v a' ∧ K (a'.put oi.dst v) w') a w := by
  obtain ⟨h1, h2, h3⟩ := Oper.apart_spec hap
  have keep : ∀ (a : Act), YieldsIf P ops R oi v a → ∀ u, YieldsIf P ops R oi v (a.put oj.dst u) := fun a hy u =>
    hy.of_same (execOp_put oi hsi a oj.dst u h3) (wanted_put oi a oj.dst u h3)
  have keepD : ∀ d, YieldsIf P ops R oi v { a with defers := d :: a.defers } := fun d => hy.of_same rfl rfl
  unfold opG at *
  simp only [hj] at *
  rw [wanted_put oj a oi.dst v h1] at h
  split
  · rename_i hw
    simp only [hw, if_true] at h
    unfold Oper.wp at *
    rw [execOp_put oj hsj a oi.dst v h1] at h
    generalize (execOp a.eval oj).run P w = r at *
    cases r with
    | ok n w' =>
      cases n <;> simp only [Oper.upon] at h ⊢
      case value u => exact ⟨keep a hy u, by rw [← Act.put_comm a v u h2]; exact h⟩
      case skip => exact ⟨keep a hy _, by rw [← Act.put_comm a v undef h2]; exact h⟩
      case defer d =>
        refine ⟨keep _ (keepD d) _, ?_⟩
        rw [← Act.put_comm _ v undef h2, ← Act.put_defers]
        exact h
      case enter f args =>
        refine Calls.mono h fun e w'' he => ?_
        cases e with
        | returned u => exact ⟨keep a hy u, by rw [← Act.put_comm a v u h2]; exact he⟩
        | panicked c => exact hQ _ _ _ he
        | outgrown => exact he
      case row row args => exact Rows.mono h fun u w'' he => ⟨keep a hy u, by rw [← Act.put_comm a v u h2]; exact he⟩
    | halt x w' =>
      cases x <;> simp only [Oper.upon] at h ⊢
      case panic u => exact hQ _ _ _ h
  · rename_i hw
    simp only [hw] at h
    exact ⟨keep a hy _, by rw [← Act.put_comm a v undef h2]; exact h⟩

/-- Whatever order is picked; each operation j keeps what Kp j says. -/
def AnyG (P : Program) (md : Region.Mode) (ops : Array Oper) (Q : Exit → Act → World → Prop) (Kp : Nat → World → World → Prop) : Nat → Array Bool → Act → World → Prop
  | 0, listed, a, w => Region.ready md ops listed = [] ∧ Q .normal a w
  | fuel + 1, listed, a, w =>
    (Region.ready md ops listed = [] → Q .normal a w) ∧
    ∀ i ∈ Region.ready md ops listed, opG P ops Q i (fun a' w' => Kp i w w' ∧ AnyG P md ops Q Kp fuel (listed.setIfInBounds i true) a' w') a w

/-- Does an operation wait for number i? -/
def waitsB (md : Region.Mode) (o : Oper) (i : Nat) : Bool := o.after.any fun e => Region.binds md e && e.on == i
theorem waits_iff {o : Oper} {i : Nat} : waitsB md o i = true ↔ ∃ e ∈ o.after, Region.binds md e = true ∧ e.on = i := by
  unfold waitsB
  rw [Array.any_eq_true']
  simp
/-- Of any two operations i and j: one waits for the other, or j is none of T, and they have nothing to do with one another. -/
def looseB (md : Region.Mode) (ops : Array Oper) (T : Nat → Bool) (i : Nat) (oi : Oper) : Bool :=
  (List.range ops.size).all fun j => j == i || match ops[j]? with | some oj => waitsB md oj i || (waitsB md oi j || (!T j && oi.apart ops oj)) | none => true
theorem loose_spec {T : Nat → Bool} {i j : Nat} {oi oj : Oper} (h : looseB md ops T i oi = true) (hj : ops[j]? = some oj) (hne : j ≠ i) : waitsB md oj i = true ∨ waitsB md oi j = true ∨ (T j = false ∧ oi.apart ops oj = true) := by
  have h1 := List.all_eq_true.1 h j (List.mem_range.2 (Array.getElem?_eq_some_iff.1 hj).1)
  simp only [hj, Bool.or_eq_true, beq_iff_eq, Bool.and_eq_true, Bool.not_eq_true'] at h1
  rcases h1 with h1 | h1
  · exact absurd h1 hne
  · exact h1
/-- Of two that may come up together neither waits for the other. -/
theorem ready_apart {i j : Nat} {listed : Array Bool} {oj : Oper} (hi : i ∈ Region.ready md ops listed) (hj : j ∈ Region.ready md ops listed) (ho : ops[j]? = some oj) : waitsB md oj i = false := by
  cases hw : waitsB md oj i with
  | false => rfl
  | true =>
    obtain ⟨e, he, hb, hon⟩ := waits_iff.1 hw
    obtain ⟨_, oj', ho', hall⟩ := mem_ready.1 hj
    obtain rfl : oj' = oj := by rw [ho] at ho'; cases ho'; rfl
    have h1 := hall e he hb
    have h2 := (mem_ready.1 hi).1
    rw [hon] at h1
    by_cases hlt : i < listed.size <;> simp [hlt] at h1 h2
    simp [h1] at h2

theorem AnyG.first {R : World → Prop} {T : Nat → Bool} {i : Nat} {oi : Oper} {v : Value} (hi : ops[i]? = some oi) (hsel : ∀ (j : Nat) (o : Oper) cs b, ops[j]? = some o → o.op ≠ .select cs b)
    (hQ : ∀ c a w, Q (.panic c) (a.put oi.dst v) w → Q (.panic c) a w) (hB : looseB md ops T i oi = true) (hK : ∀ j w w', T j = false → Kp j w w' → R w → R w') (hk : ∀ w, Kp i w w) (fuel : Nat) :
    ∀ (listed : Array Bool) (a : Act) (w : World), i ∈ Region.ready md ops listed → YieldsIf P ops R oi v a → R w →
      AnyG P md ops Q Kp fuel (listed.setIfInBounds i true) (a.put oi.dst v) w → AnyG P md ops Q Kp (fuel + 1) listed a w := by
  induction fuel with
  | zero =>
    intro listed a w hr hy hS H
    refine ⟨fun h => absurd hr (by rw [h]; simp), fun j hj => ?_⟩
    by_cases e : j = i
    · subst e
      exact opG_yields hi hy hS ⟨hk w, H⟩
    · exact absurd (ready_mono hj e) (by rw [H.1]; simp)
  | succ fuel ih =>
    intro listed a w hr hy hS H
    refine ⟨fun h => absurd hr (by rw [h]; simp), fun j hj => ?_⟩
    by_cases e : j = i
    · subst e
      exact opG_yields hi hy hS ⟨hk w, H⟩
    · obtain ⟨_, oj, hoj, _⟩ := mem_ready.1 hj
      obtain ⟨hTj, hap⟩ : T j = false ∧ oi.apart ops oj = true := by
        rcases loose_spec hB hoj e with h | h | h
        · rw [ready_apart hr hj hoj] at h; cases h
        · rw [ready_apart hj hr hi] at h; cases h
        · exact h
      refine opG_mono ?_ (opG_put hoj hap (fun cs b => hsel i oi cs b hi) (fun cs b => hsel j oj cs b hoj) hQ hy (H.2 j (ready_mono hj e)))
      rintro a' w' ⟨hy', hS', H'⟩
      exact ⟨hS', ih _ a' w' (ready_mono hr (Ne.symm e)) hy' (hK j w w' hTj hS' hS) (by rw [Array.setIfInBounds_comm _ _ e]; exact H')⟩

/-- Take number i first. -/
theorem AnyG.take {i : Nat} {oi : Oper} {v : Value} {fuel : Nat} {listed : Array Bool} {a : Act} {w : World} (R : World → Prop) (T : Nat → Bool) (hi : ops[i]? = some oi)
    (hs : Region.noSelect ops = true) (hr : (Region.ready md ops listed).contains i = true) (hB : looseB md ops T i oi = true)
    (hQ : ∀ c a w, Q (.panic c) (a.put oi.dst v) w → Q (.panic c) a w) (hK : ∀ j w w', T j = false → Kp j w w' → R w → R w') (hk : ∀ w, Kp i w w) (hy : YieldsIf P ops R oi v a) (hS : R w)
    (h : AnyG P md ops Q Kp fuel (listed.setIfInBounds i true) (a.put oi.dst v) w) : AnyG P md ops Q Kp (fuel + 1) listed a w :=
  AnyG.first hi (Region.noSelect_spec hs) hQ hB hK hk fuel listed a w (by simpa using hr) hy hS h

/-- Only one may come up. -/
theorem AnyG.one {i : Nat} {oi : Oper} {fuel : Nat} {listed : Array Bool} {a : Act} {w : World} (hi : ops[i]? = some oi) (hr : Region.ready md ops listed = [i]) (hg : Region.wanted oi (yielded ops a.tmps) = true)
    (h : oi.wp P a w (fun a' w' => Kp i w w' ∧ AnyG P md ops Q Kp fuel (listed.setIfInBounds i true) a' w') Q) : AnyG P md ops Q Kp (fuel + 1) listed a w :=
  ⟨fun h0 => (by rw [hr] at h0; cases h0), by
    rw [hr]
    intro j hj
    obtain rfl : j = i := by simpa using hj
    unfold opG
    simp only [hi, hg, if_true]
    exact h⟩

/-- One of two may come up. -/
theorem AnyG.two {i j : Nat} {oi oj : Oper} {fuel : Nat} {listed : Array Bool} {a : Act} {w : World} (hi : ops[i]? = some oi) (hj : ops[j]? = some oj) (hr : Region.ready md ops listed = [i, j])
    (hgi : Region.wanted oi (yielded ops a.tmps) = true) (hgj : Region.wanted oj (yielded ops a.tmps) = true)
    (h1 : oi.wp P a w (fun a' w' => Kp i w w' ∧ AnyG P md ops Q Kp fuel (listed.setIfInBounds i true) a' w') Q)
    (h2 : oj.wp P a w (fun a' w' => Kp j w w' ∧ AnyG P md ops Q Kp fuel (listed.setIfInBounds j true) a' w') Q) : AnyG P md ops Q Kp (fuel + 1) listed a w :=
  ⟨fun h0 => (by rw [hr] at h0; cases h0), by
    rw [hr]
    intro k hk
    unfold opG
    rcases List.mem_cons.1 hk with rfl | hk
    · simp only [hi, hgi, if_true]
      exact h1
    · obtain rfl : k = j := by simpa using hk
      simp only [hj, hgj, if_true]
      exact h2⟩

theorem AnyG.done {listed : Array Bool} {a : Act} {w : World} (hr : Region.ready md ops listed = []) (h : Q .normal a w) : ∀ fuel, AnyG P md ops Q Kp fuel listed a w
  | 0 => ⟨hr, h⟩
  | _ + 1 => ⟨fun _ => h, by rw [hr]; simp⟩

/-- A wide fence, in a round or not. -/
structure WideF (F : Fence) (P : Program) : Prop where
  fn : ∀ f, F.fn f
  depth : F.depth = none
  calls : ∀ (m : Nat) (f : FuncId) (args : Array Value) (w : World) (R : Ending → World → Prop), Calls P f args w R → CallsIn F m P f args w R
  rows : ∀ (m : Nat) (row : String) (args : Array Value) (w : World) (R : Value → World → Prop), Rows P row args w R → RowsIn F m P row args w R
theorem rowsIn_wide' {m : Nat} {row : String} {args : Array Value} {w : World} {R : Value → World → Prop} (h : Rows P row args w R) : RowsIn Fence.wide m P row args w R :=
  fun c cs _ => let ⟨v, w', r, s⟩ := h c cs; ⟨v, w', r, stepsIn_wide.2 s⟩
theorem wideF_plain (P : Program) : WideF Fence.wide P := ⟨fun _ => trivial, rfl, fun _ _ _ _ _ h => callsIn_wide.2 h, fun _ _ _ _ _ h => rowsIn_wide' h⟩
theorem wideF_round (P : Program) (l : Nat) : WideF (Fence.wide.inRound l) P :=
  ⟨fun _ => trivial, rfl, fun _ _ _ _ _ h => CallsIn.inRound l (callsIn_wide.2 h), fun m _ _ _ _ h => (rowsIn_wide' (m := m) h)⟩

def Region.noDefer (ops : Array Oper) : Bool := ops.all fun o => match o.op with | .defer _ => false | _ => true
theorem noDefer_spec (h : Region.noDefer ops = true) {i : Nat} {o : Oper} (hi : ops[i]? = some o) : ∀ c, o.op ≠ .defer c := by
  intro c hc
  unfold Region.noDefer at h
  have := (Array.all_eq_true.1 h) i (Array.getElem?_eq_some_iff.1 hi).1
  obtain ⟨hlt, he⟩ := Array.getElem?_eq_some_iff.1 hi
  rw [he, hc] at this
  cases this

theorem opG_in {F : Fence} (hF : WideF F P) (hd : Region.noDefer ops = true) {n i : Nat} {K : Act → World → Prop} {a : Act} {w : World} (h : opG P ops Q i K a w) : wpOpIn F n P ops Q i K a w := by
  unfold opG at h
  unfold wpOpIn
  cases hi : ops[i]? with
  | none => simp only [hi] at h ⊢; exact h
  | some o =>
    simp only [hi] at h ⊢
    split
    · rename_i hw
      simp only [hw, if_true] at h
      unfold Oper.wpIn
      refine ⟨fun f _ => hF.fn f, ?_⟩
      rw [Oper.semAt_eq _ _ _ (noDefer_spec hd hi)]
      unfold Oper.wp at h
      generalize (execOp a.eval o).run P w = r at *
      cases r with
      | ok x w' =>
        cases x <;> simp only [Oper.upon] at h <;> simp only [Oper.uponIn] <;>
          first
            | exact h
            | exact ⟨fun h0 => (by rw [hF.depth] at h0; cases h0), hF.calls _ _ _ _ _ h⟩
            | exact ⟨fun h0 => (by rw [hF.depth] at h0; cases h0), hF.rows _ _ _ _ _ h⟩
            | exact h.elim
      | halt x w' => cases x <;> simp only [Oper.upon] at h <;> simp only [Oper.uponIn] <;> exact h
    · rename_i hw
      simp only [hw] at h
      exact ⟨fun f _ => hF.fn f, h⟩

theorem AnyG.anyIn {F : Fence} {n : Nat} (hF : WideF F P) (hd : Region.noDefer ops = true) : ∀ (fuel : Nat) (listed : Array Bool) (a : Act) (w : World), AnyG P md ops Q Kp fuel listed a w → wpAnyIn F n P md ops Q fuel listed a w
  | 0, _, _, _, h => h
  | fuel + 1, _, _, _, h => ⟨h.1, fun i hi => wpOpIn_mono (fun a' w' h' => AnyG.anyIn hF hd fuel _ a' w' h'.2) (opG_in hF hd (h.2 i hi))⟩

/-- Only the plain way out. -/
def onlyN (K : Act → World → Prop) : Exit → Act → World → Prop
  | .normal, a, w => K a w
  | _, _, _ => False
theorem onlyN_to {Q : Exit → Act → World → Prop} : ∀ e a w, onlyN (Q .normal) e a w → Q e a w := by
  intro e a w h
  cases e <;> first | exact h | exact h.elim

/-- A drawn region, by whatever order is picked. -/
def AnyK (P : Program) (ops : Array Oper) (K : Act → World → Prop) (Kp : Nat → World → World → Prop) (fuel : Nat) (listed : Array Bool) (a : Act) (w : World) : Prop :=
  AnyG P .any ops (onlyN K) Kp fuel listed a w

theorem region_K {F : Fence} {n id : Nat} {a : Act} {w : World} (Kp : Nat → World → World → Prop) (hF : WideF F P) (hd : Region.noDefer ops = true) (hm : P.follows .mixedOrders = true)
    (h : AnyK P ops (Q .normal) Kp ops.size (Array.replicate ops.size false) a w.drew) : (Code.region id ops true).wpIn F n P Q a w :=
  wpIn_mono (wpIn_region_any hm (AnyG.anyIn hF hd _ _ _ _ h)) onlyN_to

section
variable {K : Act → World → Prop} {fuel : Nat} {listed : Array Bool} {a : Act} {w : World} {i d : Nat} {ty : TypeId} {pos : String} {aft : Array Edge} {gd : Option (Nat × Bool)}
/-- What is asked to take number i first. -/
structure May (ops : Array Oper) (Kp : Nat → World → World → Prop) (listed : Array Bool) (R : World → Prop) (T : Nat → Bool) (i : Nat) (oi : Oper) : Prop where
  at_ : ops[i]? = some oi
  sel : Region.noSelect ops = true
  rdy : (Region.ready .any ops listed).contains i = true
  loose : looseB .any ops T i oi = true
  keep : ∀ j w w', T j = false → Kp j w w' → R w → R w'
  self : ∀ w, Kp i w w

theorem AnyK.take {R : World → Prop} {T : Nat → Bool} {oi : Oper} {v : Value} (m : May ops Kp listed R T i oi) (hy : YieldsIf P ops R oi v a) (hS : R w)
    (h : AnyK P ops K Kp fuel (listed.setIfInBounds i true) (a.put oi.dst v) w) : AnyK P ops K Kp (fuel + 1) listed a w :=
  AnyG.take R T m.at_ m.sel m.rdy m.loose (fun _ _ _ h => h) m.keep m.self hy hS h

theorem AnyK.load {R : World → Prop} {T : Nat → Bool} {t : TypeId} {x : Operand} {p : Addr} {v : Value} (m : May ops Kp listed R T i ⟨some d, .load t x, ty, pos, aft, gd⟩)
    (hx : a.eval x = .pointer (some p)) (hv : ∀ w, R w → (Instr.loadAt t (.pointer (some p))).run P w = .ok v w) (hS : R w)
    (h : AnyK P ops K Kp fuel (listed.setIfInBounds i true) (a.put (some d) v) w) (hw : Region.wanted ⟨some d, .load t x, ty, pos, aft, gd⟩ (yielded ops a.tmps) = true := by rfl) : AnyK P ops K Kp (fuel + 1) listed a w :=
  AnyK.take m (.inl ⟨hw, fun w' hw' => by simp [execOp, hx, hv w' hw']⟩) hS h

theorem AnyK.nilCheck {R : World → Prop} {T : Nat → Bool} {x : Operand} {p : Addr} (m : May ops Kp listed R T i ⟨some d, .nilCheck x, ty, pos, aft, gd⟩)
    (hx : a.eval x = .pointer (some p)) (hS : R w)
    (h : AnyK P ops K Kp fuel (listed.setIfInBounds i true) (a.put (some d) (.pointer (some p))) w) (hw : Region.wanted ⟨some d, .nilCheck x, ty, pos, aft, gd⟩ (yielded ops a.tmps) = true := by rfl) : AnyK P ops K Kp (fuel + 1) listed a w :=
  AnyK.take m (.inl ⟨hw, fun w' hw' => by simp [execOp, hx]⟩) hS h

theorem AnyK.field {R : World → Prop} {T : Nat → Bool} {t : TypeId} {x : Operand} {f : Nat} {u v : Value} (m : May ops Kp listed R T i ⟨some d, .fieldAddr t x f, ty, pos, aft, gd⟩)
    (hx : a.eval x = u) (hv : ∀ w, (Instr.fieldAt t u f).run P w = .ok v w) (hS : R w)
    (h : AnyK P ops K Kp fuel (listed.setIfInBounds i true) (a.put (some d) v) w) (hw : Region.wanted ⟨some d, .fieldAddr t x f, ty, pos, aft, gd⟩ (yielded ops a.tmps) = true := by rfl) : AnyK P ops K Kp (fuel + 1) listed a w :=
  AnyK.take m (.inl ⟨hw, fun w' hw' => by simp [execOp, hx, hv w']⟩) hS h

theorem AnyK.index {R : World → Prop} {T : Nat → Bool} {t : TypeId} {x y : Operand} {u u' v : Value} (m : May ops Kp listed R T i ⟨some d, .indexAddr t x y, ty, pos, aft, gd⟩)
    (hx : a.eval x = u) (hy : a.eval y = u') (hv : ∀ w, (Instr.indexAt t u u').run P w = .ok v w) (hS : R w)
    (h : AnyK P ops K Kp fuel (listed.setIfInBounds i true) (a.put (some d) v) w) (hw : Region.wanted ⟨some d, .indexAddr t x y, ty, pos, aft, gd⟩ (yielded ops a.tmps) = true := by rfl) : AnyK P ops K Kp (fuel + 1) listed a w :=
  AnyK.take m (.inl ⟨hw, fun w' hw' => by simp [execOp, hx, hy, hv w']⟩) hS h

theorem AnyK.move {R : World → Prop} {T : Nat → Bool} {x : Operand} {v : Value} (m : May ops Kp listed R T i ⟨some d, .move x, ty, pos, aft, gd⟩)
    (hx : a.eval x = v) (hS : R w)
    (h : AnyK P ops K Kp fuel (listed.setIfInBounds i true) (a.put (some d) v) w) (hw : Region.wanted ⟨some d, .move x, ty, pos, aft, gd⟩ (yielded ops a.tmps) = true := by rfl) : AnyK P ops K Kp (fuel + 1) listed a w :=
  AnyK.take m (.inl ⟨hw, fun w' hw' => by simp [execOp, hx]⟩) hS h
theorem AnyK.assign {R : World → Prop} {T : Nat → Bool} {x : Operand} {v : Value} (m : May ops Kp listed R T i ⟨some d, .assign x, ty, pos, aft, gd⟩)
    (hx : a.eval x = v) (hS : R w)
    (h : AnyK P ops K Kp fuel (listed.setIfInBounds i true) (a.put (some d) v) w) (hw : Region.wanted ⟨some d, .assign x, ty, pos, aft, gd⟩ (yielded ops a.tmps) = true := by rfl) : AnyK P ops K Kp (fuel + 1) listed a w :=
  AnyK.take m (.inl ⟨hw, fun w' hw' => by simp [execOp, hx]⟩) hS h
theorem AnyK.bin {R : World → Prop} {T : Nat → Bool} {b : BinOp} {t t' : TypeId} {x y : Operand} {u u' v : Value} (m : May ops Kp listed R T i ⟨some d, .binOp b t x y t', ty, pos, aft, gd⟩)
    (hx : a.eval x = u) (hy : a.eval y = u') (hv : ∀ w, (do eqGuard b t x y u u'; binOp b t u u' : Sem Value).run P w = .ok v w) (hS : R w)
    (h : AnyK P ops K Kp fuel (listed.setIfInBounds i true) (a.put (some d) v) w) (hw : Region.wanted ⟨some d, .binOp b t x y t', ty, pos, aft, gd⟩ (yielded ops a.tmps) = true := by rfl) : AnyK P ops K Kp (fuel + 1) listed a w :=
  AnyK.take m (.inl ⟨hw, fun w' hw' => by
    simp only [execOp, hx, hy]
    have := hv w'
    simp only [Sem.run_bind] at this ⊢
    rw [this]
    simp⟩) hS h

/-- Only number i may come up: an operation that makes a value. -/
theorem AnyK.build {t : TypeId} {n : Nat} {parts : Array (Nat × Operand)} {ps : Array (Nat × Value)} {v : Value} {w' : World} (hi : ops[i]? = some ⟨some d, .buildSlice t n parts, ty, pos, aft, gd⟩) (hr : Region.ready .any ops listed = [i])
    (hp : parts.map (fun (i, x) => (i, a.eval x)) = ps) (hv : (Instr.buildSlice t n ps).run P w = .ok v w') (hk : Kp i w w')
    (h : AnyK P ops K Kp fuel (listed.setIfInBounds i true) (a.put (some d) v) w') (hw : Region.wanted ⟨some d, .buildSlice t n parts, ty, pos, aft, gd⟩ (yielded ops a.tmps) = true := by rfl) : AnyK P ops K Kp (fuel + 1) listed a w :=
  AnyG.one hi hr hw (by simp only [Oper.wp, execOp, hp]; simp [hv, Oper.upon]; exact ⟨hk, h⟩)
theorem AnyK.call {f : FuncId} {args : Array Operand} {tys : Array TypeId} {vs : Array Value} (hi : ops[i]? = some ⟨some d, .call { callee := .value (.func f), args := args, argTypes := tys }, ty, pos, aft, gd⟩) (hr : Region.ready .any ops listed = [i])
    (he : ∀ args w, (callFunc f args).run P w = .ok (.enter f args) w) (hp : args.map a.eval = vs)
    (h : Calls P f vs w fun e w' => ∃ v, e = .returned v ∧ Kp i w w' ∧ AnyK P ops K Kp fuel (listed.setIfInBounds i true) (a.put (some d) v) w') (hw : Region.wanted ⟨some d, .call { callee := .value (.func f), args := args, argTypes := tys }, ty, pos, aft, gd⟩ (yielded ops a.tmps) = true := by rfl) : AnyK P ops K Kp (fuel + 1) listed a w :=
  AnyG.one hi hr hw (by
    simp only [Oper.wp, execOp, resolve, hp, Act.eval, Deferred.ofValue]
    simp [invoke, he, Oper.upon]
    refine h.mono ?_
    rintro e w' ⟨v, rfl, h1, h2⟩
    exact ⟨h1, h2⟩)
theorem AnyK.store {t : TypeId} {x y : Operand} {u u' : Value} {w' : World} (hi : ops[i]? = some ⟨none, .store t x y, ty, pos, aft, gd⟩) (hr : Region.ready .any ops listed = [i])
    (hx : a.eval x = u) (hy : a.eval y = u') (hv : (Instr.storeAt t u u').run P w = .ok () w') (hk : Kp i w w')
    (h : AnyK P ops K Kp fuel (listed.setIfInBounds i true) a w') (hw : Region.wanted ⟨none, .store t x y, ty, pos, aft, gd⟩ (yielded ops a.tmps) = true := by rfl) : AnyK P ops K Kp (fuel + 1) listed a w :=
  AnyG.one hi hr hw (by simp only [Oper.wp, execOp, hx, hy]; simp [hv, Oper.upon]; exact ⟨hk, h⟩)
/-- An operation whose guard says no. -/
theorem AnyK.pass {R : World → Prop} {T : Nat → Bool} {oi : Oper} (m : May ops Kp listed R T i oi) (hw : Region.wanted oi (yielded ops a.tmps) = false) (hS : R w)
    (h : AnyK P ops K Kp fuel (listed.setIfInBounds i true) (a.put oi.dst undef) w) : AnyK P ops K Kp (fuel + 1) listed a w :=
  AnyK.take m (.inr ⟨hw, rfl⟩) hS h
theorem AnyK.pick {R : World → Prop} {T : Nat → Bool} {c x y : Operand} {b : Bool} {v : Value} (m : May ops Kp listed R T i ⟨some d, .pick c x y, ty, pos, aft, gd⟩) (hc : a.eval c = .bool b)
    (hx : (if b then a.eval x else a.eval y) = v) (hS : R w)
    (h : AnyK P ops K Kp fuel (listed.setIfInBounds i true) (a.put (some d) v) w) (hw : Region.wanted ⟨some d, .pick c x y, ty, pos, aft, gd⟩ (yielded ops a.tmps) = true := by rfl) : AnyK P ops K Kp (fuel + 1) listed a w :=
  AnyK.take m (.inl ⟨hw, fun w' _ => by simp [execOp, hc, asBool]; cases b <;> simpa using hx⟩) hS h
theorem AnyK.indexV {R : World → Prop} {T : Nat → Bool} {t : TypeId} {x y : Operand} {u u' v : Value} (m : May ops Kp listed R T i ⟨some d, .index t x y, ty, pos, aft, gd⟩)
    (hx : a.eval x = u) (hy : a.eval y = u') (hv : ∀ w, (Instr.index t u u').run P w = .ok v w) (hS : R w)
    (h : AnyK P ops K Kp fuel (listed.setIfInBounds i true) (a.put (some d) v) w) (hw : Region.wanted ⟨some d, .index t x y, ty, pos, aft, gd⟩ (yielded ops a.tmps) = true := by rfl) : AnyK P ops K Kp (fuel + 1) listed a w :=
  AnyK.take m (.inl ⟨hw, fun w' hw' => by simp [execOp, hx, hy, hv w']⟩) hS h
theorem wanted_at {o oj : Oper} {j e : Nat} {b b' : Bool} (hg : o.guard = some (j, b)) (hj : ops[j]? = some oj) (hd : oj.dst = some e) (he : a.eval (.tmp e) = .bool b') : Region.wanted o (yielded ops a.tmps) = (b' == b) := by
  have h : a.tmps[e]? = some (.bool b') := by
    simp only [Act.eval, Array.getD_eq_getD_getElem?] at he
    cases hq : a.tmps[e]? with
    | none => rw [hq] at he; cases he
    | some u => rw [hq] at he; simp at he; rw [he]
  unfold Region.wanted yielded
  simp [hg, hj, hd, h]
theorem AnyK.done (hr : Region.ready .any ops listed = []) (h : K a w) : AnyK P ops K Kp fuel listed a w := AnyG.done hr h fuel

@[simp] theorem ev_same {v : Value} (h : d < a.tmps.size) : (a.put (some d) v).eval (.tmp d) = v := by simp [Act.put, Act.eval, h]
@[simp] theorem ev_ne {v : Value} {e : Nat} (h : e ≠ d) : (a.put (some d) v).eval (.tmp e) = a.eval (.tmp e) := Act.eval_put (by rintro d' h' h2; cases h'; cases h2; exact h rfl)
@[simp] theorem ev_const {v : Value} : a.eval (.const v) = v := rfl
@[simp] theorem size_put {v : Value} : (a.put (some d) v).tmps.size = a.tmps.size := by simp [Act.put]
end
end
/-- The operations of a region, by its number. -/
def regionOf (k : Nat) : Code → Option (Array Oper)
  | .region id ops _ => if id == k then some ops else none
  | .seq a b => match regionOf k a with
    | some c => some c
    | none => regionOf k b
  | .loop c => regionOf k c
  | .block _ c => regionOf k c
  | .scope c => regionOf k c
  | .cond _ a b => match regionOf k a with
    | some c => some c
    | none => regionOf k b
  | .rangeFunc _ _ a b => match regionOf k a with
    | some c => some c
    | none => regionOf k b
  | _ => none
theorem cell_new2 (w : World) (u v : Value) (t : TypeId) : (w.alloc (.cells #[u, v] t)).cell? ⟨w.heap.size, 0, none⟩ = some u ∧ (w.alloc (.cells #[u, v] t)).cell? ⟨w.heap.size, 1, none⟩ = some v := by
  refine ⟨?_, ?_⟩
  · rw [cell_of_row _ _ _ _ _ _ (heap_alloc_new w (.cells #[u, v] t))]
    rfl
  · rw [cell_of_row _ _ _ _ _ _ (heap_alloc_new w (.cells #[u, v] t))]
    rfl

theorem cell_alloc_l {w : World} {p : Addr} {v : Value} (o : Obj) (h : w.cell? p = some v) : (w.alloc o).cell? p = some v :=
  (((Below.refl w.heap.size w).alloc (Nat.le_refl _) o).cell (block_lt_of_cell h)).trans h
theorem froz_alloc_l {w : World} {p : Addr} {v : Value} (o : Obj) (h : w.cell? p = some v) (hf : w.frozen? p = false) : (w.alloc o).frozen? p = false :=
  (((Below.refl w.heap.size w).alloc (Nat.le_refl _) o).frozen (block_lt_of_cell h)).trans hf

/-- A fact on the world that all operations but those of T keep. -/
abbrev KpR (R : World → Prop) (T : Nat → Bool) : Nat → World → World → Prop := fun j w w' => T j = false → R w → R w'
theorem may_of {ops : Array Oper} {listed : Array Bool} {R : World → Prop} {T : Nat → Bool} {i : Nat} {oi : Oper} (h1 : ops[i]? = some oi) (h2 : Region.noSelect ops = true) (h3 : (Region.ready .any ops listed).contains i = true) (h4 : looseB .any ops T i oi = true) :
    May ops (KpR R T) listed R T i oi := ⟨h1, h2, h3, h4, fun _ _ _ hT hk hR => hk hT hR, fun _ _ h => h⟩
theorem may_o {ops : Array Oper} {listed : Array Bool} {R : World → Prop} {T : Nat → Bool} {i : Nat} {oi : Oper} (h1 : ops[i]? = some oi := by rfl) (h2 : Region.noSelect ops = true := by kernel_rfl) (h3 : (Region.ready .any ops listed).contains i = true := by kernel_rfl) (h4 : looseB .any ops T i oi = true := by kernel_rfl) :
    May ops (KpR R T) listed R T i oi := may_of h1 h2 h3 h4
theorem news1 {w : World} {b : Nat} {v : Value} (h : w.cell? ⟨b, 0, none⟩ = some v) : ∀ j u, [v][j]? = some u → w.cell? ((⟨b, 0, none⟩ : Addr).add j) = some u := by
  intro j u hu
  cases j with
  | zero => simp at hu; subst hu; exact h
  | succ j => simp at hu
theorem cell_set_far {w : World} {p q : Addr} (h : p.block ≠ q.block) (u : Value) : (w.setCell q u).cell? p = w.cell? p := World.cell?_of_block (Below.heap_setCell w q u p.block h)

/-- The memory of a book that is being made: the variable at block h + 2, the book at block h + 1; two lists that are owned. -/
structure BM (w : World) (h : Nat) (o t : Int) (A : Option Addr) (n c : Nat) (ve vl : Value) (je jl : Nat) (xe xl : List Value) (ce cl : Value) (W : World) : Prop where
  kv : Whole W (h + 2) 89 #[.pointer (some ⟨h + 1, 0, none⟩)]
  kb : Whole W (h + 1) 114 #[.int .i64 o, .int .i64 t, .slice A n c, ce, cl]
  low : Below h w W
  oe : W.ownsRow (h + 3) 3 1 ve je xe
  ol : W.ownsRow (h + 3) 3 1 vl jl xl
  ne : ve.ownBlock = none ∨ ve.ownBlock ≠ vl.ownBlock
section
variable {w : World} {h : Nat} {o t : Int} {A : Option Addr} {n c : Nat} {ve vl : Value} {je jl : Nat} {xe xl : List Value} {ce cl : Value} {W W' : World}
theorem BM.base (b : BM w h o t A n c ve vl je jl xe xl ce cl W) : h + 3 ≤ W.heap.size := b.kv.lt
theorem BM.alloc (b : BM w h o t A n c ve vl je jl xe xl ce cl W) (x : Obj) : BM w h o t A n c ve vl je jl xe xl ce cl (W.alloc x) :=
  ⟨b.kv.alloc x, b.kb.alloc x, b.low.alloc (by have := b.base; omega) x, b.oe.alloc x, b.ol.alloc x, b.ne⟩
theorem BM.drew (b : BM w h o t A n c ve vl je jl xe xl ce cl W) : BM w h o t A n c ve vl je jl xe xl ce cl W.drew := ⟨b.kv, b.kb, b.low.drew, b.oe, b.ol, b.ne⟩
end
section
variable {P : Program} {ops : Array Oper} {K : Act → World → Prop} {Kp : Nat → World → World → Prop} {fuel : Nat} {listed : Array Bool} {a : Act} {w : World} {i j d : Nat} {ty : TypeId} {pos : String} {aft : Array Edge}
/-- One operation comes up. -/
def StepK (P : Program) (ops : Array Oper) (K : Act → World → Prop) (Kp : Nat → World → World → Prop) (fuel : Nat) (listed : Array Bool) (a : Act) (w : World) (i : Nat) : Prop :=
  opG P ops (onlyN K) i (fun a' w' => Kp i w w' ∧ AnyK P ops K Kp fuel (listed.setIfInBounds i true) a' w') a w
theorem AnyK.pick1 (hr : Region.ready .any ops listed = [i]) (h : StepK P ops K Kp fuel listed a w i) : AnyK P ops K Kp (fuel + 1) listed a w :=
  ⟨fun h0 => (by rw [hr] at h0; cases h0), by
    rw [hr]
    intro k hk
    obtain rfl : k = i := by simpa using hk
    exact h⟩
theorem AnyK.pick2 (hr : Region.ready .any ops listed = [i, j]) (h1 : StepK P ops K Kp fuel listed a w i) (h2 : StepK P ops K Kp fuel listed a w j) : AnyK P ops K Kp (fuel + 1) listed a w :=
  ⟨fun h0 => (by rw [hr] at h0; cases h0), by
    rw [hr]
    intro k hk
    rcases List.mem_cons.1 hk with rfl | hk
    · exact h1
    · obtain rfl : k = j := by simpa using hk
      exact h2⟩
theorem StepK.build {t : TypeId} {n : Nat} {parts : Array (Nat × Operand)} {ps : Array (Nat × Value)} {v : Value} {w' : World} (hi : ops[i]? = some ⟨some d, .buildSlice t n parts, ty, pos, aft, none⟩)
    (hp : parts.map (fun (i, x) => (i, a.eval x)) = ps) (hv : (Instr.buildSlice t n ps).run P w = .ok v w') (hk : Kp i w w')
    (h : AnyK P ops K Kp fuel (listed.setIfInBounds i true) (a.put (some d) v) w') : StepK P ops K Kp fuel listed a w i := by
  unfold StepK opG
  simp only [hi]
  rw [if_pos (show Region.wanted _ _ = true from rfl)]
  simp only [Oper.wp, execOp, hp]; simp [hv, Oper.upon]; exact ⟨hk, h⟩
end
theorem defers_put {a : Act} {d : Option Tmp} {v : Value} : (a.put d v).defers = a.defers := by cases d <;> rfl
section
variable {P : Program} {ops : Array Oper} {Q : Exit → Act → World → Prop} {K : Act → World → Prop} {k i d : Nat} {a : Act} {w w' : World} {ty : TypeId} {pos : String} {aft : Array Edge} {v : Value} {gd : Option (Nat × Bool)}
/-- The operations from number i on, k of them. -/
def ListK (P : Program) (ops : Array Oper) (K : Act → World → Prop) : Nat → Nat → Act → World → Prop
  | 0, _, a, w => K a w
  | k + 1, i, a, w => opG P ops (fun _ _ _ => False) i (ListK P ops K k (i + 1)) a w

theorem opG_never {Q : Exit → Act → World → Prop} (hl : LetsOut (fun _ _ _ => False) → LetsOut Q) {K : Act → World → Prop} (h : opG P ops (fun _ _ _ => False) i K a w) : opG P ops Q i K a w := by
  unfold opG at *
  split
  · simpa [*] using h
  · rename_i o ho
    simp only [ho] at h
    split
    · rename_i hw
      simp only [hw, if_true] at h
      unfold Oper.wp at *
      generalize (execOp a.eval o).run P w = r at *
      cases r with
      | ok x w' =>
        cases x <;> simp only [Oper.upon] at h ⊢ <;>
          first
            | exact h
            | exact Calls.mono h (fun e w'' he => by cases e <;> first | exact he | exact he.elim | exact hl he)
      | halt x w' => cases x <;> simp only [Oper.upon] at h ⊢
    · rename_i hw
      simp only [hw] at h
      exact h

theorem listK_ops {F : Fence} {n : Nat} (hF : WideF F P) (hd : Region.noDefer ops = true) : ∀ (k i : Nat) (a : Act) (w : World), ListK P ops (Q .normal) k i a w → wpOpsIn F n P ops (onlyN (Q .normal)) (List.range' i k) a w
  | 0, _, _, _, h => h
  | k + 1, i, a, w, h => by
    rw [List.range'_succ, wpOpsIn_cons]
    exact wpOpIn_mono (fun a' w' h' => listK_ops hF hd k (i + 1) a' w' h') (opG_in hF hd (opG_never (fun ⟨_, _, h⟩ => h.elim) h))

theorem region_L {F : Fence} {n id : Nat} (k : Nat) (hF : WideF F P) (hd : Region.noDefer ops = true) (hk : ops.size = k) (h : ListK P ops (Q .normal) k 0 a w) : (Code.region id ops false).wpIn F n P Q a w :=
  wpIn_mono (wpIn_region (by rw [List.range_eq_range', hk]; exact listK_ops hF hd k 0 a w h)) onlyN_to

theorem region_l {F : Fence} {n id : Nat} (k : Nat) (hF : WideF F P) (hd : Region.noDefer ops = true) (hk : ops.size = k) (h : ∀ K : Act → World → Prop, (∀ a w, Q .normal a w → K a w) → ListK P ops K k 0 a w) : (Code.region id ops false).wpIn F n P Q a w :=
  region_L k hF hd hk (h _ fun _ _ h => h)
theorem region_p {n id : Nat} (k : Nat) (h : ∀ K : Act → World → Prop, (∀ a w, Q .normal a w → K a w) → ListK P ops K k 0 a w) (hd : Region.noDefer ops = true := by kernel_rfl) (hk : ops.size = k := by kernel_rfl) : (Code.region id ops false).wpIn Fence.wide n P Q a w := region_l k (wideF_plain _) hd hk h

theorem ListK.val {o : Oper} (hi : ops[i]? = some o) (hg : o.guard = none) (hr : (execOp a.eval o).run P w = .ok (.value v) w') (h : ListK P ops K k (i + 1) (a.put o.dst v) w') : ListK P ops K (k + 1) i a w := by
  unfold ListK opG
  simp only [hi]
  rw [if_pos (by unfold Region.wanted; rw [hg])]
  simp only [Oper.wp, hr, Oper.upon]
  exact h
theorem ListK.skip {o : Oper} (hi : ops[i]? = some o) (hg : o.guard = none) (hr : (execOp a.eval o).run P w = .ok .skip w') (h : ListK P ops K k (i + 1) (a.put o.dst undef) w') : ListK P ops K (k + 1) i a w := by
  unfold ListK opG
  simp only [hi]
  rw [if_pos (by unfold Region.wanted; rw [hg])]
  simp only [Oper.wp, hr, Oper.upon]
  exact h
theorem ListK.valW {o : Oper} (hi : ops[i]? = some o) (hw : Region.wanted o (yielded ops a.tmps) = true) (hr : (execOp a.eval o).run P w = .ok (.value v) w') (h : ListK P ops K k (i + 1) (a.put o.dst v) w') : ListK P ops K (k + 1) i a w := by
  unfold ListK opG
  simp only [hi]
  rw [if_pos hw]
  simp only [Oper.wp, hr, Oper.upon]
  exact h
theorem ListK.skipW {o : Oper} (hi : ops[i]? = some o) (hw : Region.wanted o (yielded ops a.tmps) = true) (hr : (execOp a.eval o).run P w = .ok .skip w') (h : ListK P ops K k (i + 1) (a.put o.dst undef) w') : ListK P ops K (k + 1) i a w := by
  unfold ListK opG
  simp only [hi]
  rw [if_pos hw]
  simp only [Oper.wp, hr, Oper.upon]
  exact h
theorem ListK.passW {o : Oper} (hi : ops[i]? = some o) (hw : Region.wanted o (yielded ops a.tmps) = false) (h : ListK P ops K k (i + 1) (a.put o.dst undef) w) : ListK P ops K (k + 1) i a w := by
  unfold ListK opG
  simp only [hi]
  rw [if_neg (by rw [hw]; simp)]
  exact h
theorem ListK.done (h : K a w) : ListK P ops K 0 i a w := h

theorem ListK.load {t : TypeId} {x : Operand} {p : Addr} (hi : ops[i]? = some ⟨some d, .load t x, ty, pos, aft, gd⟩) (hx : a.eval x = .pointer (some p)) (hv : (Instr.loadAt t (.pointer (some p))).run P w = .ok v w)
    (h : ListK P ops K k (i + 1) (a.put (some d) v) w) (hw : Region.wanted ⟨some d, .load t x, ty, pos, aft, gd⟩ (yielded ops a.tmps) = true := by rfl) : ListK P ops K (k + 1) i a w := ListK.valW hi hw (by simp [execOp, hx, hv]) h
theorem ListK.nilCheck {x : Operand} {p : Addr} (hi : ops[i]? = some ⟨some d, .nilCheck x, ty, pos, aft, gd⟩) (hx : a.eval x = .pointer (some p))
    (h : ListK P ops K k (i + 1) (a.put (some d) (.pointer (some p))) w) (hw : Region.wanted ⟨some d, .nilCheck x, ty, pos, aft, gd⟩ (yielded ops a.tmps) = true := by rfl) : ListK P ops K (k + 1) i a w := ListK.valW hi hw (by simp [execOp, hx]) h
theorem ListK.field {t : TypeId} {x : Operand} {f : Nat} {u : Value} (hi : ops[i]? = some ⟨some d, .fieldAddr t x f, ty, pos, aft, gd⟩) (hx : a.eval x = u) (hv : (Instr.fieldAt t u f).run P w = .ok v w)
    (h : ListK P ops K k (i + 1) (a.put (some d) v) w) (hw : Region.wanted ⟨some d, .fieldAddr t x f, ty, pos, aft, gd⟩ (yielded ops a.tmps) = true := by rfl) : ListK P ops K (k + 1) i a w := ListK.valW hi hw (by simp [execOp, hx, hv]) h
theorem ListK.index {t : TypeId} {x y : Operand} {u u' : Value} (hi : ops[i]? = some ⟨some d, .indexAddr t x y, ty, pos, aft, gd⟩) (hx : a.eval x = u) (hy : a.eval y = u') (hv : (Instr.indexAt t u u').run P w = .ok v w)
    (h : ListK P ops K k (i + 1) (a.put (some d) v) w) (hw : Region.wanted ⟨some d, .indexAddr t x y, ty, pos, aft, gd⟩ (yielded ops a.tmps) = true := by rfl) : ListK P ops K (k + 1) i a w := ListK.valW hi hw (by simp [execOp, hx, hy, hv]) h
theorem ListK.move {x : Operand} (hi : ops[i]? = some ⟨some d, .move x, ty, pos, aft, gd⟩) (hx : a.eval x = v)
    (h : ListK P ops K k (i + 1) (a.put (some d) v) w) (hw : Region.wanted ⟨some d, .move x, ty, pos, aft, gd⟩ (yielded ops a.tmps) = true := by rfl) : ListK P ops K (k + 1) i a w := ListK.valW hi hw (by simp [execOp, hx]) h
theorem ListK.assign {x : Operand} (hi : ops[i]? = some ⟨some d, .assign x, ty, pos, aft, gd⟩) (hx : a.eval x = v)
    (h : ListK P ops K k (i + 1) (a.put (some d) v) w) (hw : Region.wanted ⟨some d, .assign x, ty, pos, aft, gd⟩ (yielded ops a.tmps) = true := by rfl) : ListK P ops K (k + 1) i a w := ListK.valW hi hw (by simp [execOp, hx]) h
theorem ListK.bin {b : BinOp} {t t' : TypeId} {x y : Operand} {u u' : Value} (hi : ops[i]? = some ⟨some d, .binOp b t x y t', ty, pos, aft, gd⟩) (hx : a.eval x = u) (hy : a.eval y = u')
    (hv : (do eqGuard b t x y u u'; binOp b t u u' : Sem Value).run P w = .ok v w)
    (h : ListK P ops K k (i + 1) (a.put (some d) v) w) (hw : Region.wanted ⟨some d, .binOp b t x y t', ty, pos, aft, gd⟩ (yielded ops a.tmps) = true := by rfl) : ListK P ops K (k + 1) i a w := ListK.valW hi hw (by
      simp only [execOp, hx, hy]
      have := hv
      simp only [Sem.run_bind] at this ⊢
      rw [this]
      simp) h
theorem ListK.alloc {t : TypeId} (hi : ops[i]? = some ⟨some d, .alloc t, ty, pos, aft, gd⟩) (hv : (Instr.alloc t true (.tuple #[])).run P w = .ok v w')
    (h : ListK P ops K k (i + 1) (a.put (some d) v) w') (hw : Region.wanted ⟨some d, .alloc t, ty, pos, aft, gd⟩ (yielded ops a.tmps) = true := by rfl) : ListK P ops K (k + 1) i a w := ListK.valW hi hw (by simp [execOp, hv]) h
theorem ListK.box {t : TypeId} {x : Operand} {u : Value} (hi : ops[i]? = some ⟨some d, .box t x, ty, pos, aft, gd⟩) (hx : a.eval x = u) (hv : (Instr.box t u).run P w = .ok v w')
    (h : ListK P ops K k (i + 1) (a.put (some d) v) w') (hw : Region.wanted ⟨some d, .box t x, ty, pos, aft, gd⟩ (yielded ops a.tmps) = true := by rfl) : ListK P ops K (k + 1) i a w := ListK.valW hi hw (by simp [execOp, hx, hv]) h
theorem ListK.store {t : TypeId} {x y : Operand} {u u' : Value} (hi : ops[i]? = some ⟨none, .store t x y, ty, pos, aft, gd⟩) (hx : a.eval x = u) (hy : a.eval y = u') (hv : (Instr.storeAt t u u').run P w = .ok () w')
    (h : ListK P ops K k (i + 1) a w') (hw : Region.wanted ⟨none, .store t x y, ty, pos, aft, gd⟩ (yielded ops a.tmps) = true := by rfl) : ListK P ops K (k + 1) i a w := ListK.skipW hi hw (by simp [execOp, hx, hy, hv]) h
theorem ListK.call {f : FuncId} {args : Array Operand} {tys : Array TypeId} {vs : Array Value} (hi : ops[i]? = some ⟨some d, .call { callee := .value (.func f), args := args, argTypes := tys }, ty, pos, aft, gd⟩)
    (he : ∀ args w, (callFunc f args).run P w = .ok (.enter f args) w) (hp : args.map a.eval = vs)
    (h : Calls P f vs w fun e w' => ∃ v, e = .returned v ∧ ListK P ops K k (i + 1) (a.put (some d) v) w') (hw : Region.wanted ⟨some d, .call { callee := .value (.func f), args := args, argTypes := tys }, ty, pos, aft, gd⟩ (yielded ops a.tmps) = true := by rfl) : ListK P ops K (k + 1) i a w := by
  unfold ListK opG
  simp only [hi]
  rw [if_pos hw]
  simp only [Oper.wp, execOp, resolve, hp, Act.eval, Deferred.ofValue]
  simp [invoke, he, Oper.upon]
  refine h.mono ?_
  rintro e w' ⟨v, rfl, h1⟩
  exact h1
end
attribute [irreducible] ListK
/-- Cells 0 to N - 1 of block g hold f, and may be written. -/
def Row (W : World) (g N : Nat) (f : Nat → Int) : Prop := ∀ d, d < N → W.cell? ⟨g, d, none⟩ = some (.int .i64 (f d)) ∧ W.frozen? ⟨g, d, none⟩ = false
section
variable {W W' : World} {g N : Nat} {f : Nat → Int}
theorem Row.alloc (h : Row W g N f) (o : Obj) : Row (W.alloc o) g N f := fun d hd => ⟨cell_alloc_l o (h d hd).1, froz_alloc_l o (h d hd).1 (h d hd).2⟩
theorem Row.drew (h : Row W g N f) : Row W.drew g N f := h
theorem Row.below (h : Row W g N f) (hb : Below W.heap.size W W') : Row W' g N f := fun d hd =>
  ⟨(hb.cell (block_lt_of_cell (h d hd).1)).trans (h d hd).1, (hb.frozen (block_lt_of_cell (h d hd).1)).trans (h d hd).2⟩
theorem Row.far (h : Row W g N f) {p : Addr} (hp : g ≠ p.block) (u : Value) : Row (W.setCell p u) g N f := fun d hd =>
  ⟨(cell_set_far (by simpa using hp) u).trans (h d hd).1, by rw [World.frozen?_setCell]; exact (h d hd).2⟩
theorem Row.set (h : Row W g N f) {d : Nat} (hd : d < N) (v : Int) : Row (W.setCell ⟨g, d, none⟩ (.int .i64 v)) g N (upd f d v) := fun e he => by
  refine ⟨?_, by rw [World.frozen?_setCell]; exact (h e he).2⟩
  by_cases hde : e = d
  · subst hde
    rw [World.cell?_setCell_same _ _ _ (h e he).1]
    simp [upd]
  · rw [World.cell?_setCell_other _ _ _ _ (by intro h2; cases h2; exact hde rfl), (h e he).1]
    simp [upd, hde]
theorem Row.own {row : Option Nat} (h : Row W g N f) (hg : W.grownBy W' row) (hr : ∀ r, row = some r → ∃ o : Obj, W.heap[r]? = some o ∧ o.isCells = false) : Row W' g N f := fun d hd =>
  ⟨cell_kept (h d hd).1 hg hr, (frozen_kept (h d hd).1 hg hr).trans (h d hd).2⟩
end
theorem Whole.own {W W' : World} {g : Nat} {t : TypeId} {cs : Array Value} {row : Option Nat} (h : Whole W g t cs) (hg : W.grownBy W' row) (hr : ∀ r, row = some r → ∃ o : Obj, W.heap[r]? = some o ∧ o.isCells = false) : Whole W' g t cs := by
  refine (hg.block g h.lt (fun e => ?_)).trans h
  obtain ⟨o, ho, hc⟩ := hr g e.symm
  rw [show W.heap[g]? = _ from h] at ho
  cases ho
  cases hc

/-- The memory of a book: the variable at block h + 2, the book at block h + 1, its tables at ge and gl. -/
structure Bk (w : World) (h : Nat) (o t : Int) (A : Option Addr) (n c N ge gl ce cl : Nat) (E L : Nat → Int) (W : World) : Prop where
  kv : Whole W (h + 2) 89 #[.pointer (some ⟨h + 1, 0, none⟩)]
  kb : Whole W (h + 1) 114 #[.int .i64 o, .int .i64 t, .slice A n c, .slice (some ⟨ge, 0, none⟩) N ce, .slice (some ⟨gl, 0, none⟩) N cl]
  low : Below h w W
  re : Row W ge N E
  rl : Row W gl N L
  g1 : h + 3 ≤ ge
  g2 : h + 3 ≤ gl
  ne : ge ≠ gl
  lt1 : ge < W.heap.size
  lt2 : gl < W.heap.size
section
variable {w W W' : World} {h : Nat} {o t : Int} {A : Option Addr} {n c N ge gl ce cl : Nat} {E L : Nat → Int}
theorem Bk.base (b : Bk w h o t A n c N ge gl ce cl E L W) : h + 3 ≤ W.heap.size := b.kv.lt
theorem Bk.alloc (b : Bk w h o t A n c N ge gl ce cl E L W) (x : Obj) : Bk w h o t A n c N ge gl ce cl E L (W.alloc x) :=
  ⟨b.kv.alloc x, b.kb.alloc x, b.low.alloc (by have := b.base; omega) x, b.re.alloc x, b.rl.alloc x, b.g1, b.g2, b.ne, by have := b.lt1; simp; omega, by have := b.lt2; simp; omega⟩
theorem Bk.drew (b : Bk w h o t A n c N ge gl ce cl E L W) : Bk w h o t A n c N ge gl ce cl E L W.drew := ⟨b.kv, b.kb, b.low.drew, b.re, b.rl, b.g1, b.g2, b.ne, b.lt1, b.lt2⟩
theorem Bk.far (b : Bk w h o t A n c N ge gl ce cl E L W) {p : Addr} (h1 : h + 3 ≤ p.block) (h2 : ge ≠ p.block) (h3 : gl ≠ p.block) (u : Value) : Bk w h o t A n c N ge gl ce cl E L (W.setCell p u) :=
  ⟨b.kv.far (by omega) _, b.kb.far (by omega) _, b.low.setCell (by omega) _, b.re.far h2 _, b.rl.far h3 _, b.g1, b.g2, b.ne, by have := b.lt1; simpa [World.setCell] using this, by have := b.lt2; simpa [World.setCell] using this⟩
theorem Bk.below (b : Bk w h o t A n c N ge gl ce cl E L W) (hb : Below W.heap.size W W') : Bk w h o t A n c N ge gl ce cl E L W' :=
  ⟨b.kv.below hb b.kv.lt, b.kb.below hb b.kb.lt, b.low.trans (hb.mono (by have := b.base; omega)), b.re.below hb, b.rl.below hb, b.g1, b.g2, b.ne, Nat.lt_of_lt_of_le b.lt1 hb.size, Nat.lt_of_lt_of_le b.lt2 hb.size⟩
theorem Bk.own (b : Bk w h o t A n c N ge gl ce cl E L W) {row : Option Nat} (hg : W.grownBy W' row) (hr : ∀ r, row = some r → h ≤ r ∧ ∃ o : Obj, W.heap[r]? = some o ∧ o.isCells = false) : Bk w h o t A n c N ge gl ce cl E L W' :=
  ⟨b.kv.own hg (fun r e => (hr r e).2), b.kb.own hg (fun r e => (hr r e).2), b.low.grown hg (by have := b.base; omega) (fun k e => (hr k e).1), b.re.own hg (fun r e => (hr r e).2), b.rl.own hg (fun r e => (hr r e).2), b.g1, b.g2, b.ne, Nat.lt_of_lt_of_le b.lt1 hg.size, Nat.lt_of_lt_of_le b.lt2 hg.size⟩
end
/-- Marks among the deferred calls. -/
def mark (D : Nat) : Deferred := { target := .collected D, args := #[] }
structure Mk (h : Nat) (Ds : List Nat) (W : World) : Prop where
  nd : Ds.Nodup
  at_ : ∀ D, D ∈ Ds → h ≤ D ∧ W.heap[D]? = some (.deferred (some []))
section
variable {W W' : World} {h : Nat} {Ds : List Nat}
theorem Mk.nil (h : Nat) (W : World) : Mk h [] W := ⟨List.nodup_nil, fun _ hD => by cases hD⟩
theorem Mk.lt (m : Mk h Ds W) {D : Nat} (hD : D ∈ Ds) : D < W.heap.size := (Array.getElem?_eq_some_iff.1 (m.at_ D hD).2).1
theorem Mk.below (m : Mk h Ds W) (hb : Below W.heap.size W W') : Mk h Ds W' := ⟨m.nd, fun D hD => ⟨(m.at_ D hD).1, (hb.block D (m.lt hD)).trans (m.at_ D hD).2⟩⟩
theorem Mk.grown (m : Mk h Ds W) {B : Nat} (hB : ∀ D, D ∈ Ds → D < B) {row : Option Nat} (hg : W.grownBy W' row) (hr : ∀ r, row = some r → B ≤ r) : Mk h Ds W' :=
  ⟨m.nd, fun D hD => ⟨(m.at_ D hD).1, (hg.block D (m.lt hD) (fun e => by have := hr D e.symm; have := hB D hD; omega)).trans (m.at_ D hD).2⟩⟩
theorem Mk.cons (m : Mk h Ds W) {D : Nat} (hD : h ≤ D) (hh : W.heap[D]? = some (.deferred (some []))) (hn : ∀ D', D' ∈ Ds → D' < D) : Mk h (D :: Ds) W :=
  ⟨List.nodup_cons.2 ⟨fun hm => by have := hn D hm; omega, m.nd⟩, fun D' hm => by
    rcases List.mem_cons.1 hm with rfl | hm
    · exact ⟨hD, hh⟩
    · exact m.at_ D' hm⟩
end
section
theorem ev_df (a : Act) (ds : List Deferred) (x : Operand) : Act.eval { a with defers := ds } x = a.eval x := by cases x <;> rfl
end
theorem ListK.bld {P : Program} {ops : Array Oper} {K : Act → World → Prop} {k i d : Nat} {a : Act} {w : World} {ty : TypeId} {pos : String} {aft : Array Edge} {v : Value} {t : TypeId} {parts : Array (Nat × Operand)} {ps : Array (Nat × Value)} (hi : ops[i]? = some ⟨some d, .build t parts, ty, pos, aft, none⟩) (hp : parts.map (fun (i, x) => (i, a.eval x)) = ps)
    (hv : (Instr.build t ps).run P w = .ok v w) (h : ListK P ops K k (i + 1) (a.put (some d) v) w) : ListK P ops K (k + 1) i a w := ListK.val hi rfl (by simp only [execOp, hp]; simp [hv]) h

section
variable {P : Program} {ops : Array Oper} {K : Act → World → Prop} {Kp : Nat → World → World → Prop} {fuel : Nat} {listed : Array Bool} {a : Act} {w : World} {i j d : Nat} {ty : TypeId} {pos : String} {aft : Array Edge} {gd : Option (Nat × Bool)}
theorem AnyK.bld {R : World → Prop} {T : Nat → Bool} {t : TypeId} {parts : Array (Nat × Operand)} {ps : Array (Nat × Value)} {v : Value} (m : May ops Kp listed R T i ⟨some d, .build t parts, ty, pos, aft, gd⟩)
    (hp : parts.map (fun (i, x) => (i, a.eval x)) = ps) (hv : ∀ w, (Instr.build t ps).run P w = .ok v w) (hS : R w)
    (h : AnyK P ops K Kp fuel (listed.setIfInBounds i true) (a.put (some d) v) w) (hw : Region.wanted ⟨some d, .build t parts, ty, pos, aft, gd⟩ (yielded ops a.tmps) = true := by rfl) : AnyK P ops K Kp (fuel + 1) listed a w :=
  AnyK.take m (.inl ⟨hw, fun w' _ => by simp only [execOp, hp]; simp [hv w']⟩) hS h
theorem AnyK.extract {R : World → Prop} {T : Nat → Bool} {x : Operand} {n : Nat} {u v : Value} (m : May ops Kp listed R T i ⟨some d, .extract x n, ty, pos, aft, gd⟩)
    (hx : a.eval x = u) (hv : ∀ w, (Instr.extract u n).run P w = .ok v w) (hS : R w)
    (h : AnyK P ops K Kp fuel (listed.setIfInBounds i true) (a.put (some d) v) w) (hw : Region.wanted ⟨some d, .extract x n, ty, pos, aft, gd⟩ (yielded ops a.tmps) = true := by rfl) : AnyK P ops K Kp (fuel + 1) listed a w :=
  AnyK.take m (.inl ⟨hw, fun w' _ => by simp [execOp, hx, hv w']⟩) hS h
theorem AnyK.len {R : World → Prop} {T : Nat → Bool} {x : Operand} {tys : Array TypeId} {u v : Value} (m : May ops Kp listed R T i ⟨some d, .call { callee := .builtin .len, args := #[x], argTypes := tys }, ty, pos, aft, gd⟩)
    (hx : a.eval x = u) (hv : ∀ w, (builtin .len tys ty #[false] #[u]).run P w = .ok (.value v) w) (hc : (match x with | .const _ => true | _ => false) = false) (hS : R w)
    (h : AnyK P ops K Kp fuel (listed.setIfInBounds i true) (a.put (some d) v) w) (hw : Region.wanted ⟨some d, .call { callee := .builtin .len, args := #[x], argTypes := tys }, ty, pos, aft, gd⟩ (yielded ops a.tmps) = true := by rfl) : AnyK P ops K Kp (fuel + 1) listed a w :=
  AnyK.take m (.inl ⟨hw, fun w' _ => by
    have := hv w'
    cases x <;> simp_all [execOp, resolve, invoke]⟩) hS h
theorem StepK.call {f : FuncId} {fo : Operand} {args : Array Operand} {tys : Array TypeId} {vs : Array Value} (hi : ops[i]? = some ⟨some d, .call { callee := .value fo, args := args, argTypes := tys }, ty, pos, aft, gd⟩)
    (he : ∀ args w, (callFunc f args).run P w = .ok (.enter f args) w) (hf : a.eval fo = .func (.func f) #[] #[]) (hp : args.map a.eval = vs)
    (h : Calls P f vs w fun e w' => ∃ v, e = .returned v ∧ Kp i w w' ∧ AnyK P ops K Kp fuel (listed.setIfInBounds i true) (a.put (some d) v) w')
    (hw : Region.wanted ⟨some d, .call { callee := .value fo, args := args, argTypes := tys }, ty, pos, aft, gd⟩ (yielded ops a.tmps) = true := by rfl) : StepK P ops K Kp fuel listed a w i := by
  unfold StepK opG
  simp only [hi]
  rw [if_pos hw]
  simp only [Oper.wp, execOp, resolve, hp, hf, Deferred.ofValue]
  simp [invoke, he, Oper.upon]
  refine h.mono ?_
  rintro e w' ⟨v, rfl, h1, h2⟩
  exact ⟨h1, h2⟩
theorem StepK.alloc {t : TypeId} {v : Value} {w' : World} (hi : ops[i]? = some ⟨some d, .alloc t, ty, pos, aft, gd⟩) (hv : (Instr.alloc t true (.tuple #[])).run P w = .ok v w') (hk : Kp i w w')
    (h : AnyK P ops K Kp fuel (listed.setIfInBounds i true) (a.put (some d) v) w') (hw : Region.wanted ⟨some d, .alloc t, ty, pos, aft, gd⟩ (yielded ops a.tmps) = true := by rfl) : StepK P ops K Kp fuel listed a w i := by
  unfold StepK opG
  simp only [hi]
  rw [if_pos hw]
  simp only [Oper.wp, execOp]; simp [hv, Oper.upon]; exact ⟨hk, h⟩
theorem StepK.store {t : TypeId} {x y : Operand} {u u' : Value} {w' : World} (hi : ops[i]? = some ⟨none, .store t x y, ty, pos, aft, gd⟩)
    (hx : a.eval x = u) (hy : a.eval y = u') (hv : (Instr.storeAt t u u').run P w = .ok () w') (hk : Kp i w w')
    (h : AnyK P ops K Kp fuel (listed.setIfInBounds i true) a w') (hw : Region.wanted ⟨none, .store t x y, ty, pos, aft, gd⟩ (yielded ops a.tmps) = true := by rfl) : StepK P ops K Kp fuel listed a w i := by
  unfold StepK opG
  simp only [hi]
  rw [if_pos hw]
  simp only [Oper.wp, execOp, hx, hy]; simp [hv, Oper.upon]; exact ⟨hk, h⟩
theorem wanted_g {op : Op} {b b' r : Bool} {j e : Nat} {dd : Option Tmp} (hj : (ops[j]?).bind (·.dst) = some e) (he : a.eval (.tmp e) = .bool b') (hb : (b' == b) = r) : Region.wanted ⟨dd, op, ty, pos, aft, some (j, b)⟩ (yielded ops a.tmps) = r := by
  rw [Option.bind_eq_some_iff] at hj
  obtain ⟨oj, h1, h2⟩ := hj
  rw [← hb]
  exact wanted_at (oj := oj) rfl h1 h2 he
theorem AnyK.passG {R : World → Prop} {T : Nat → Bool} {op : Op} {b b' : Bool} {e : Nat} (m : May ops Kp listed R T i ⟨some d, op, ty, pos, aft, some (j, b)⟩) (hj : (ops[j]?).bind (·.dst) = some e) (he : a.eval (.tmp e) = .bool b') (hb : (b' == b) = false) (hS : R w)
    (h : AnyK P ops K Kp fuel (listed.setIfInBounds i true) (a.put (some d) undef) w) : AnyK P ops K Kp (fuel + 1) listed a w :=
  AnyK.take m (.inr ⟨wanted_g hj he hb, rfl⟩) hS h
@[simp] theorem ev_func {f : FuncId} : a.eval (.func f) = .func (.func f) #[] #[] := rfl
end
theorem ListK.indexV {P : Program} {ops : Array Oper} {K : Act → World → Prop} {k i d : Nat} {a : Act} {w : World} {ty : TypeId} {pos : String} {aft : Array Edge} {v : Value} {t : TypeId} {x y : Operand} {u u' : Value} (hi : ops[i]? = some ⟨some d, .index t x y, ty, pos, aft, none⟩) (hx : a.eval x = u) (hy : a.eval y = u') (hv : (Instr.index t u u').run P w = .ok v w)
    (h : ListK P ops K k (i + 1) (a.put (some d) v) w) : ListK P ops K (k + 1) i a w := ListK.val hi rfl (by simp [execOp, hx, hy, hv]) h

/-- A block of two numbers that may be written. -/
structure Two (W : World) (b : Nat) (x y : Int) : Prop where
  c0 : W.cell? ⟨b, 0, none⟩ = some (.int .i64 x)
  c1 : W.cell? ⟨b, 1, none⟩ = some (.int .i64 y)
  f0 : W.frozen? ⟨b, 0, none⟩ = false
  f1 : W.frozen? ⟨b, 1, none⟩ = false
section
variable {W W' : World} {b : Nat} {x y : Int}
theorem Two.lt (h : Two W b x y) : b < W.heap.size := block_lt_of_cell h.c0
theorem Two.below (h : Two W b x y) (hb : Below W.heap.size W W') : Two W' b x y :=
  ⟨(hb.cell (p := ⟨b, 0, none⟩) h.lt).trans h.c0, (hb.cell (p := ⟨b, 1, none⟩) h.lt).trans h.c1, (hb.frozen (p := ⟨b, 0, none⟩) h.lt).trans h.f0, (hb.frozen (p := ⟨b, 1, none⟩) h.lt).trans h.f1⟩
theorem Two.new (W : World) (x y : Int) : Two (W.alloc (.cells #[.int .i64 x, .int .i64 y] 46)) W.heap.size x y :=
  ⟨(Whole.new W 46 #[.int .i64 x, .int .i64 y]).cell 0, (Whole.new W 46 #[.int .i64 x, .int .i64 y]).cell 1, (Whole.new W 46 #[.int .i64 x, .int .i64 y]).frozen 0, (Whole.new W 46 #[.int .i64 x, .int .i64 y]).frozen 1⟩
/-- Both numbers written. -/
def put2 (W : World) (b : Nat) (x y : Int) : World := (W.setCell ⟨b, 0, none⟩ (.int .i64 x)).setCell ⟨b, 1, none⟩ (.int .i64 y)
theorem Two.put (h : Two W b x y) (u v : Int) : Two (put2 W b u v) b u v := by
  unfold put2
  have h1 : (W.setCell ⟨b, 0, none⟩ (.int .i64 u)).cell? ⟨b, 1, none⟩ = some (.int .i64 y) := by rw [World.cell?_setCell_other _ _ _ _ (by simp)]; exact h.c1
  refine ⟨?_, World.cell?_setCell_same _ _ _ h1, by rw [World.frozen?_setCell, World.frozen?_setCell]; exact h.f0, by rw [World.frozen?_setCell, World.frozen?_setCell]; exact h.f1⟩
  rw [World.cell?_setCell_other _ _ _ _ (by simp)]
  exact World.cell?_setCell_same _ _ _ h.c0
theorem Two.far (h : Two W b x y) {b' : Nat} (hne : b ≠ b') (u v : Int) : Two (put2 W b' u v) b x y := by
  unfold put2
  exact ⟨by rw [cell_set_far (by simpa using hne), cell_set_far (by simpa using hne)]; exact h.c0, by rw [cell_set_far (by simpa using hne), cell_set_far (by simpa using hne)]; exact h.c1, by rw [World.frozen?_setCell, World.frozen?_setCell]; exact h.f0, by rw [World.frozen?_setCell, World.frozen?_setCell]; exact h.f1⟩
end
/-- The frame of span behind its first regions. -/
structure FrS (a : Act) (kb d k r : Nat) : Prop where
  sz : a.tmps.size = 98
  df : a.defers = []
  t0 : a.eval (.tmp 0) = .pointer (some ⟨kb, 0, none⟩)
  t1 : a.eval (.tmp 1) = .int .i64 d
  t2 : a.eval (.tmp 2) = .int .i64 k
  t6 : a.eval (.tmp 6) = .pointer (some ⟨r, 0, none⟩)
  t7 : a.eval (.tmp 7) = .bool false

theorem ListK.extract {P : Program} {ops : Array Oper} {K : Act → World → Prop} {k i d : Nat} {a : Act} {w : World} {ty : TypeId} {pos : String} {aft : Array Edge} {v : Value} {x : Operand} {m : Nat} {u : Value} (hi : ops[i]? = some ⟨some d, .extract x m, ty, pos, aft, none⟩) (hx : a.eval x = u) (hv : (Instr.extract u m).run P w = .ok v w)
    (h : ListK P ops K k (i + 1) (a.put (some d) v) w) : ListK P ops K (k + 1) i a w := ListK.val hi rfl (by simp [execOp, hx, hv]) h

/-- The frame of When in its loop. -/
structure FrW (a : Act) (kb k r bo N d : Nat) : Prop where
  sz : a.tmps.size = 57
  df : a.defers = []
  t1 : a.eval (.tmp 1) = .int .i64 k
  t4 : a.eval (.tmp 4) = .pointer (some ⟨r, 0, none⟩)
  t6 : a.eval (.tmp 6) = .pointer (some ⟨kb, 0, none⟩)
  t8 : a.eval (.tmp 8) = .pointer (some ⟨bo, 0, none⟩)
  t30 : a.eval (.tmp 30) = .int .i64 N
  t31 : a.eval (.tmp 31) = .int .i64 d
theorem FrW.of {a a' : Act} {kb k r bo N d : Nat} (f : FrW a kb k r bo N d) (h1 : a'.tmps.size = 57) (h2 : a'.defers = a.defers) (h3 : ∀ e : Nat, (e = 1 ∨ e = 4 ∨ e = 6 ∨ e = 8 ∨ e = 30 ∨ e = 31) → a'.eval (.tmp e) = a.eval (.tmp e)) : FrW a' kb k r bo N d :=
  ⟨h1, h2.trans f.df, (h3 1 (by omega)).trans f.t1, (h3 4 (by omega)).trans f.t4, (h3 6 (by omega)).trans f.t6, (h3 8 (by omega)).trans f.t8, (h3 30 (by omega)).trans f.t30, (h3 31 (by omega)).trans f.t31⟩

section
variable {ops : Array Oper} {K : Act → World → Prop} {k i d : Nat} {a : Act} {w : World} {ty : TypeId} {pos : String} {aft : Array Edge}
end
/-- Two lists of numbers that are owned. -/
structure RM (W0 : World) (ve vs : Value) (xe xs : List Int) (W : World) : Prop where
  low : Below W0.heap.size W0 W
  oe : W.ownsRow W0.heap.size 3 1 ve xe.length (xe.map (Value.int .i64))
  os : W.ownsRow W0.heap.size 3 1 vs xs.length (xs.map (Value.int .i64))
  ne : ve.ownBlock = none ∨ ve.ownBlock ≠ vs.ownBlock
section
variable {W0 W W' : World} {ve vs : Value} {xe xs : List Int}
theorem RM.below (b : RM W0 ve vs xe xs W) (hb : Below W.heap.size W W') : RM W0 ve vs xe xs W' :=
  ⟨b.low.trans (hb.mono b.low.size), b.oe.kept (grown_of_below hb) (by cases ve.ownBlock <;> simp), b.os.kept (grown_of_below hb) (by cases vs.ownBlock <;> simp), b.ne⟩
end
/-- The frame of Reach in its loop. -/
structure FrE (a : Act) (kb : Nat) (day : Int) (O n : Nat) (ve vs : Value) : Prop where
  sz : a.tmps.size = 46
  df : a.defers = []
  t1 : a.eval (.tmp 1) = .int .i64 day
  t4 : a.eval (.tmp 4) = ve
  t5 : a.eval (.tmp 5) = vs
  t7 : a.eval (.tmp 7) = .pointer (some ⟨kb, 0, none⟩)
  t21 : a.eval (.tmp 21) = .int .i64 O
  t22 : a.eval (.tmp 22) = .int .i64 n
theorem FrE.of {a a' : Act} {kb : Nat} {day : Int} {O n : Nat} {ve vs : Value} (f : FrE a kb day O n ve vs) (h1 : a'.tmps.size = 46) (h2 : a'.defers = a.defers) (h3 : ∀ e : Nat, (e = 1 ∨ e = 4 ∨ e = 5 ∨ e = 7 ∨ e = 21 ∨ e = 22) → a'.eval (.tmp e) = a.eval (.tmp e)) : FrE a' kb day O n ve vs :=
  ⟨h1, h2.trans f.df, (h3 1 (by omega)).trans f.t1, (h3 4 (by omega)).trans f.t4, (h3 5 (by omega)).trans f.t5, (h3 7 (by omega)).trans f.t7, (h3 21 (by omega)).trans f.t21, (h3 22 (by omega)).trans f.t22⟩

theorem ownsRow_base {W : World} {b b' : Nat} {e : TypeId} {s n : Nat} {v : Value} {xs : List Value} (h : W.ownsRow b e s v n xs) (hb : b' ≤ b) : W.ownsRow b' e s v n xs := by
  refine ⟨h.1, ?_⟩
  rcases h.2 with h1 | ⟨g, cap, cur, h1, h2, h3⟩
  · exact .inl h1
  · exact .inr ⟨g, cap, cur, h1, by omega, h3⟩
theorem RM.base {W0 W1 W : World} {ve vs : Value} {xe xs : List Int} (h : RM W1 ve vs xe xs W) (hb : Below W0.heap.size W0 W1) : RM W0 ve vs xe xs W :=
  ⟨hb.trans (h.low.mono hb.size), ownsRow_base h.oe hb.size, ownsRow_base h.os hb.size, h.ne⟩

/-- A list of numbers that is owned. -/
structure OL (W0 : World) (v : Value) (xs : List Int) (W : World) : Prop where
  low : Below W0.heap.size W0 W
  own : W.ownsRow W0.heap.size 3 1 v xs.length (xs.map (Value.int .i64))
theorem OL.below {W0 W W' : World} {v : Value} {xs : List Int} (b : OL W0 v xs W) (hb : Below W.heap.size W W') : OL W0 v xs W' :=
  ⟨b.low.trans (hb.mono b.low.size), b.own.kept (grown_of_below hb) (by cases v.ownBlock <;> simp)⟩
theorem OL.base {W0 W1 W : World} {v : Value} {xs : List Int} (h : OL W1 v xs W) (hb : Below W0.heap.size W0 W1) : OL W0 v xs W := ⟨hb.trans (h.low.mono hb.size), ownsRow_base h.own hb.size⟩
/-- How it reads. -/
theorem OL.ints {W0 W : World} {v : Value} {xs : List Int} (h : OL W0 v xs W) : ∃ A c, v = .slice A xs.length c ∧ xs.length ≤ c ∧ IntsAt W W.heap.size A xs := by
  rcases h.own.2 with ⟨rfl, h0⟩ | ⟨g, cap, cur, rfl, hb, hg, hc, _⟩
  · refine ⟨none, 0, by rw [h0], by omega, fun k x hx => ?_⟩
    have : xs = [] := List.eq_nil_of_length_eq_zero h0
    subst this
    simp at hx
  · refine ⟨_, cap, rfl, hc, fun k x hx => ⟨g, 0, rfl, (Array.getElem?_eq_some_iff.1 hg).1, ?_⟩⟩
    have := h.own.cells (g := g) rfl k (.int .i64 x) (by rw [List.getElem?_map, hx]; rfl)
    simp only [Addr.add] at this
    split at this
    · rename_i h0
      subst h0
      simpa using this
    · simpa using this

/-- The numbers of the sales of d that are below n, rising. -/
def listTo (d : Nat) : Nat → List Int
  | 0 => []
  | n + 1 => if d.testBit n = true then listTo d n ++ [(n : Int)] else listTo d n
structure FrO (a : Act) (h d n i : Nat) (A : Option Addr) (c : Nat) : Prop where
  sz : a.tmps.size = 33
  df : a.defers = []
  t1 : a.eval (.tmp 1) = .int .i64 d
  t4 : a.eval (.tmp 4) = .pointer (some ⟨h + 1, 0, none⟩)
  t5 : a.eval (.tmp 5) = .pointer (some ⟨h + 2, 0, none⟩)
  t14 : a.eval (.tmp 14) = .slice A n c
  t15 : a.eval (.tmp 15) = .int .i64 n
  t16 : a.eval (.tmp 16) = .int .i64 i
theorem FrO.of {a a' : Act} {h d n i : Nat} {A : Option Addr} {c : Nat} (f : FrO a h d n i A c) (h1 : a'.tmps.size = 33) (h2 : a'.defers = a.defers) (h3 : ∀ e : Nat, (e = 1 ∨ e = 4 ∨ e = 5 ∨ e = 14 ∨ e = 15 ∨ e = 16) → a'.eval (.tmp e) = a.eval (.tmp e)) : FrO a' h d n i A c :=
  ⟨h1, h2.trans f.df, (h3 1 (by omega)).trans f.t1, (h3 4 (by omega)).trans f.t4, (h3 5 (by omega)).trans f.t5, (h3 14 (by omega)).trans f.t14, (h3 15 (by omega)).trans f.t15, (h3 16 (by omega)).trans f.t16⟩

/-- A value reads as a list of numbers. -/
def RI (W : World) (v : Value) (xs : List Int) : Prop := ∃ A c, v = .slice A xs.length c ∧ xs.length ≤ c ∧ IntsAt W W.heap.size A xs
theorem RI.below {W W' : World} {v : Value} {xs : List Int} (h : RI W v xs) (hb : Below W.heap.size W W') : RI W' v xs := by
  obtain ⟨A, c, h1, h2, h3⟩ := h
  exact ⟨A, c, h1, h2, (h3.below hb (Nat.le_refl _)).more hb.size⟩
theorem RI.nil (W : World) : RI W (.slice none 0 0) [] := ⟨none, 0, rfl, by simp, fun k x hx => by simp at hx⟩

section
variable {ops : Array Oper} {K : Act → World → Prop} {k i j d : Nat} {a : Act} {w : World} {ty : TypeId} {pos : String} {aft : Array Edge}
theorem ListK.passG {P : Program} {op : Op} {b b' : Bool} {e : Nat} (hi : ops[i]? = some ⟨some d, op, ty, pos, aft, some (j, b)⟩) (hj : (ops[j]?).bind (·.dst) = some e) (he : a.eval (.tmp e) = .bool b') (hb : (b' == b) = false)
    (h : ListK P ops K k (i + 1) (a.put (some d) undef) w) : ListK P ops K (k + 1) i a w := ListK.passW hi (wanted_g hj he hb) h
theorem ListK.pick {P : Program} {c x y : Operand} {b : Bool} {v : Value} (hi : ops[i]? = some ⟨some d, .pick c x y, ty, pos, aft, none⟩) (hc : a.eval c = .bool b) (hx : (if b then a.eval x else a.eval y) = v)
    (h : ListK P ops K k (i + 1) (a.put (some d) v) w) : ListK P ops K (k + 1) i a w :=
  ListK.valW hi rfl (by simp [execOp, hc, asBool]; cases b <;> simpa using hx) h
end
structure FrB (a : Act) (b1 many n N d : Nat) (best : Value) (found : Bool) : Prop where
  sz : a.tmps.size = 56
  df : a.defers = []
  t1 : a.eval (.tmp 1) = .pointer (some ⟨b1, 0, none⟩)
  t5 : a.eval (.tmp 5) = best
  t6 : a.eval (.tmp 6) = .int .i64 many
  t7 : a.eval (.tmp 7) = .bool found
  t18 : a.eval (.tmp 18) = .int .i64 ((n + 1 : Nat) : Int)
  t19 : a.eval (.tmp 19) = .int .i64 many
  t25 : a.eval (.tmp 25) = .int .i64 N
  t26 : a.eval (.tmp 26) = .int .i64 d
theorem FrB.of {a a' : Act} {b1 many n N d : Nat} {best : Value} {found : Bool} (f : FrB a b1 many n N d best found) (h1 : a'.tmps.size = 56) (h2 : a'.defers = a.defers) (h3 : ∀ e : Nat, (e = 1 ∨ e = 5 ∨ e = 6 ∨ e = 7 ∨ e = 18 ∨ e = 19 ∨ e = 25 ∨ e = 26) → a'.eval (.tmp e) = a.eval (.tmp e)) : FrB a' b1 many n N d best found :=
  ⟨h1, h2.trans f.df, (h3 1 (by omega)).trans f.t1, (h3 5 (by omega)).trans f.t5, (h3 6 (by omega)).trans f.t6, (h3 7 (by omega)).trans f.t7, (h3 18 (by omega)).trans f.t18, (h3 19 (by omega)).trans f.t19, (h3 25 (by omega)).trans f.t25, (h3 26 (by omega)).trans f.t26⟩

/-- The frame of Blame in its outer loop. -/
structure FrC (a : Act) (b1 m n : Nat) (best : Value) : Prop where
  sz : a.tmps.size = 56
  df : a.defers = []
  t1 : a.eval (.tmp 1) = .pointer (some ⟨b1, 0, none⟩)
  t5 : a.eval (.tmp 5) = best
  t18 : a.eval (.tmp 18) = .int .i64 ((n + 1 : Nat) : Int)
  t19 : a.eval (.tmp 19) = .int .i64 m

theorem AnyK.un {P : Program} {ops : Array Oper} {K : Act → World → Prop} {Kp : Nat → World → World → Prop} {fuel : Nat} {listed : Array Bool} {a : Act} {w : World} {i d : Nat} {ty : TypeId} {pos : String} {aft : Array Edge} {gd : Option (Nat × Bool)}
    {R : World → Prop} {T : Nat → Bool} {b : UnOp} {t : TypeId} {x : Operand} {u v : Value} (m : May ops Kp listed R T i ⟨some d, .unOp b t x, ty, pos, aft, gd⟩)
    (hx : a.eval x = u) (hv : ∀ w, (Op.unary b u).run P w = .ok v w) (hS : R w)
    (h : AnyK P ops K Kp fuel (listed.setIfInBounds i true) (a.put (some d) v) w) (hw : Region.wanted ⟨some d, .unOp b t x, ty, pos, aft, gd⟩ (yielded ops a.tmps) = true := by rfl) : AnyK P ops K Kp (fuel + 1) listed a w :=
  AnyK.take m (.inl ⟨hw, fun w' _ => by simp [execOp, hx, hv w']⟩) hS h
/-- The frame of ProveTruth in its loop. -/
structure FrP (a : Act) (b3 b7 b8 k n : Nat) (last : Int) (vo vd : Value) : Prop where
  sz : a.tmps.size = 96
  df : a.defers = []
  t2 : a.eval (.tmp 2) = vd
  t3 : a.eval (.tmp 3) = .pointer (some ⟨b3, 0, none⟩)
  t7 : a.eval (.tmp 7) = .pointer (some ⟨b7, 0, none⟩)
  t8 : a.eval (.tmp 8) = .pointer (some ⟨b8, 0, none⟩)
  t9 : a.eval (.tmp 9) = .int .i64 last
  t34 : a.eval (.tmp 34) = vo
  t35 : a.eval (.tmp 35) = .int .i64 n
  t36 : a.eval (.tmp 36) = .int .i64 k

/-- All blocks are kept but those of X. -/
structure Else (X : Nat → Prop) (W W' : World) : Prop where
  base : Below 0 W W'
  block : ∀ k, k < W.heap.size → ¬ X k → W'.heap[k]? = W.heap[k]?
section
variable {X Y : Nat → Prop} {W W' W'' : World}
theorem Else.refl (X : Nat → Prop) (W : World) : Else X W W := ⟨Below.refl _ _, fun _ _ _ => rfl⟩
theorem Else.size (h : Else X W W') : W.heap.size ≤ W'.heap.size := h.base.size
theorem Else.trans (h : Else X W W') (k : Else X W' W'') : Else X W W'' := ⟨h.base.trans k.base, fun i hi hx => (k.block i (Nat.lt_of_lt_of_le hi h.size) hx).trans (h.block i hi hx)⟩
theorem Else.of_below (X : Nat → Prop) (h : Below W.heap.size W W') : Else X W W' := ⟨h.mono (Nat.zero_le _), fun i hi _ => h.block i hi⟩
theorem Else.mono (h : Else X W W') (hXY : ∀ k, k < W.heap.size → X k → Y k) : Else Y W W' := ⟨h.base, fun i hi hx => h.block i hi (fun h2 => hx (hXY i hi h2))⟩
theorem Else.setCell (h : Else X W W') {p : Addr} (hp : X p.block ∨ W.heap.size ≤ p.block) (u : Value) : Else X W (W'.setCell p u) :=
  ⟨h.base.setCell (Nat.zero_le _) u, fun i hi hx => (Below.heap_setCell W' p u i (by rintro rfl; rcases hp with hp | hp; exact hx hp; omega)).trans (h.block i hi hx)⟩
theorem Else.alloc (h : Else X W W') (o : Obj) : Else X W (W'.alloc o) := h.trans (Else.of_below X ((Below.refl _ _).alloc (Nat.le_refl _) o))
theorem Else.drew (h : Else X W W') : Else X W W'.drew := ⟨h.base.drew, h.block⟩
theorem Else.cell (h : Else X W W') {p : Addr} {v : Value} (hp : ¬ X p.block) (hc : W.cell? p = some v) : W'.cell? p = some v :=
  (World.cell?_of_block (w := W) (h.block p.block (block_lt_of_cell hc) hp)).trans hc
theorem Else.whole (h : Else X W W') {g : Nat} {t : TypeId} {cs : Array Value} (hp : ¬ X g) (hw : Whole W g t cs) : Whole W' g t cs := (h.block g hw.lt hp).trans hw
theorem Else.row (h : Else X W W') {g n : Nat} {f : Nat → Int} (hp : ¬ X g) (hw : Row W g n f) : Row W' g n f := fun d hd =>
  ⟨h.cell hp (hw d hd).1, (World.frozen?_of_block (w := W) (h.block g (block_lt_of_cell (hw d hd).1) hp)).trans (hw d hd).2⟩
theorem Else.below (h : Else X W W') {B : Nat} (hB : B ≤ W.heap.size) (hX : ∀ k, k < B → ¬ X k) : Below B W W' :=
  ⟨h.base.os, h.base.tape, h.base.output, h.base.size, fun k hk => h.block k (Nat.lt_of_lt_of_le hk hB) (hX k hk)⟩
end
theorem Row.congr {W : World} {g n : Nat} {f f' : Nat → Int} (h : Row W g n f) (he : ∀ j, j < n → f j = f' j) : Row W g n f' := fun d hd => by rw [← he d hd]; exact h d hd
theorem may_free {ops : Array Oper} {listed : Array Bool} {R : World → Prop} {T : Nat → Bool} {i : Nat} {oi : Oper} (h1 : ops[i]? = some oi) (h2 : Region.noSelect ops = true) (h3 : (Region.ready .any ops listed).contains i = true) (h4 : looseB .any ops (fun _ => false) i oi = true) :
    May ops (KpR R T) listed (fun _ => True) (fun _ => false) i oi := ⟨h1, h2, h3, h4, fun _ _ _ _ _ _ => trivial, fun _ _ h => h⟩
abbrev stV (d : Nat) (x : Int) : Value := .agg #[.int .i64 d, .int .i64 x]
/-- The map at block M holds states from which there is no way on. -/
def GoneAt (W : World) (M : Nat) (bad : Nat → Int → Prop) : Prop :=
  ∃ es ck, W.heap[M]? = some (.map es ck) ∧ ∀ e, e ∈ es.toList → ∃ d x, e.key = stV d x ∧ e.val = .bool true ∧ bad d x
section
variable {W : World} {M : Nat} {bad : Nat → Int → Prop}
theorem GoneAt.keep {W' : World} (h : GoneAt W M bad) (hk : W'.heap[M]? = W.heap[M]?) : GoneAt W' M bad := by
  obtain ⟨es, ck, h1, h2⟩ := h
  exact ⟨es, ck, hk.trans h1, h2⟩
theorem GoneAt.lt (h : GoneAt W M bad) : M < W.heap.size := by
  obtain ⟨es, ck, h1, _⟩ := h
  exact (Array.getElem?_eq_some_iff.1 h1).1
end
/-- Where the blocks of Order lie. -/
structure Geo (H B kb ge gl b2 b3 b5 b6 b7 M gd : Nat) : Prop where
  lo : B ≤ b2 ∧ B ≤ M ∧ B ≤ gd
  n2 : kb ≠ b2 ∧ ge ≠ b2 ∧ gl ≠ b2 ∧ b5 ≠ b2 ∧ b6 ≠ b2 ∧ b7 ≠ b2 ∧ b3 ≠ b2 ∧ M ≠ b2 ∧ gd ≠ b2
  nM : kb ≠ M ∧ ge ≠ M ∧ gl ≠ M ∧ b5 ≠ M ∧ b6 ≠ M ∧ b7 ≠ M ∧ b3 ≠ M ∧ gd ≠ M
  ng : kb ≠ gd ∧ ge ≠ gd ∧ gl ≠ gd ∧ b5 ≠ gd ∧ b6 ≠ gd ∧ b7 ≠ gd ∧ b3 ≠ gd
  lt : kb < H ∧ ge < H ∧ gl < H ∧ b5 < H ∧ b6 < H ∧ b7 < H ∧ b3 < H ∧ M < H ∧ gd < H ∧ b2 < H ∧ B ≤ H
theorem Else.of_grown {W W' : World} {row : Option Nat} (hg : W.grownBy W' row) : Else (fun k => some k = row) W W' :=
  ⟨⟨hg.os, hg.tape, hg.output, hg.size, fun k hk => by omega⟩, fun k hk hx => hg.block k hk (fun e => hx e)⟩
theorem KeepsC.of_else {X : Nat → Prop} {W W' : World} (h : Else X W W') : KeepsC X W W' := ⟨h.size, fun b _ _ _ hx hc => (h.block b (Array.getElem?_eq_some_iff.1 hc).1 hx).trans hc⟩

section
variable {P : Program} {ops : Array Oper} {K : Act → World → Prop} {Kp : Nat → World → World → Prop} {fuel : Nat} {listed : Array Bool} {a : Act} {w : World} {i d : Nat} {ty : TypeId} {pos : String} {aft : Array Edge} {gd : Option (Nat × Bool)}
theorem StepK.callC {f : FuncId} {fo : Operand} {caps : Array Value} {args : Array Operand} {tys : Array TypeId} {vs : Array Value} (hi : ops[i]? = some ⟨some d, .call { callee := .value fo, args := args, argTypes := tys }, ty, pos, aft, gd⟩)
    (he : ∀ args w, (callFunc f args).run P w = .ok (.enter f args) w) (hf : a.eval fo = .func (.func f) #[] caps) (hp : args.map a.eval = vs)
    (h : Calls P f (vs ++ caps) w fun e w' => ∃ v, e = .returned v ∧ Kp i w w' ∧ AnyK P ops K Kp fuel (listed.setIfInBounds i true) (a.put (some d) v) w')
    (hw : Region.wanted ⟨some d, .call { callee := .value fo, args := args, argTypes := tys }, ty, pos, aft, gd⟩ (yielded ops a.tmps) = true := by rfl) : StepK P ops K Kp fuel listed a w i := by
  unfold StepK opG
  simp only [hi]
  rw [if_pos hw]
  simp only [Oper.wp, execOp, resolve, hp, hf, Deferred.ofValue]
  simp [invoke, he, Oper.upon]
  refine h.mono ?_
  rintro e w' ⟨v, rfl, h1, h2⟩
  exact ⟨h1, h2⟩
end
section
end
section
variable {P : Program} {ops : Array Oper} {K : Act → World → Prop} {k i d : Nat} {a : Act} {w w' : World} {ty : TypeId} {pos : String} {aft : Array Edge} {v : Value} {gd : Option (Nat × Bool)}
theorem ListK.bsl {P : Program} {t : TypeId} {n : Nat} {parts : Array (Nat × Operand)} {ps : Array (Nat × Value)} (hi : ops[i]? = some ⟨some d, .buildSlice t n parts, ty, pos, aft, gd⟩)
    (hp : parts.map (fun (i, x) => (i, a.eval x)) = ps) (hv : (Instr.buildSlice t n ps).run P w = .ok v w')
    (h : ListK P ops K k (i + 1) (a.put (some d) v) w') (hw : Region.wanted ⟨some d, .buildSlice t n parts, ty, pos, aft, gd⟩ (yielded ops a.tmps) = true := by rfl) : ListK P ops K (k + 1) i a w :=
  ListK.valW hi hw (by simp only [execOp, hp]; simp [hv]) h
theorem ListK.mapUp {t : TypeId} {x y z : Operand} {u u' u'' : Value} (hi : ops[i]? = some ⟨none, .mapUpdate t x y z, ty, pos, aft, gd⟩) (hx : a.eval x = u) (hy : a.eval y = u') (hz : a.eval z = u'') (hv : (Instr.mapUpdate t u u' u'').run P w = .ok () w')
    (h : ListK P ops K k (i + 1) a w') (hw : Region.wanted ⟨none, .mapUpdate t x y z, ty, pos, aft, gd⟩ (yielded ops a.tmps) = true := by rfl) : ListK P ops K (k + 1) i a w := ListK.skipW hi hw (by simp [execOp, hx, hy, hz, hv]) h
end
theorem KeepsFrom.of_else {B : Nat} {Z : Nat → Prop} {W W' : World} (h : Else Z W W') (hZ : ∀ k, B ≤ k → ¬ Z k) : KeepsFrom B W W' :=
  ⟨h.size, fun k o hB hk _ => (h.block k (Array.getElem?_eq_some_iff.1 hk).1 (hZ k hB)).trans hk⟩
theorem Else.grown {Z : Nat → Prop} {W0 W W' : World} {row : Option Nat} (h : Else Z W0 W) (hg : W.grownBy W' row) (hr : ∀ r, row = some r → W0.heap.size ≤ r) : Else Z W0 W' :=
  ⟨h.base.trans (Else.of_grown hg).base, fun k hk hx => (hg.block k (Nat.lt_of_lt_of_le hk h.size) (fun e => by have := hr k e.symm; omega)).trans (h.block k hk hx)⟩
theorem Else.step {X Z : Nat → Prop} {W W1 W2 : World} (h : Else X W W1) (he : Else Z W1 W2) (hz : ∀ k, k < W.heap.size → Z k → X k) : Else X W W2 :=
  ⟨h.base.trans he.base, fun k hk hx => (he.block k (Nat.lt_of_lt_of_le hk h.size) (fun h2 => hx (hz k hk h2))).trans (h.block k hk hx)⟩
section
/-- The frame of a round. -/
structure FrZ (a : Act) (b2 b3 b7 bs br : Nat) : Prop where
  sz : a.tmps.size = 56
  t3 : a.eval (.tmp 3) = .pointer (some ⟨b7, 0, none⟩)
  t4 : a.eval (.tmp 4) = .pointer (some ⟨b2, 0, none⟩)
  t5 : a.eval (.tmp 5) = .pointer (some ⟨b3, 0, none⟩)
  t6 : a.eval (.tmp 6) = .pointer (some ⟨bs, 0, none⟩)
  t7 : a.eval (.tmp 7) = .pointer (some ⟨br, 0, none⟩)
end
section
variable {P : Program} {ops : Array Oper} {K : Act → World → Prop} {k i d : Nat} {a : Act} {w w' : World} {ty : TypeId} {pos : String} {aft : Array Edge} {v : Value} {gd : Option (Nat × Bool)}
theorem ListK.callV {f : FuncId} {fo : Operand} {caps : Array Value} {args : Array Operand} {tys : Array TypeId} {vs : Array Value} (hi : ops[i]? = some ⟨some d, .call { callee := .value fo, args := args, argTypes := tys }, ty, pos, aft, gd⟩)
    (he : ∀ args w, (callFunc f args).run P w = .ok (.enter f args) w) (hf : a.eval fo = .func (.func f) #[] caps) (hp : args.map a.eval = vs)
    (h : Calls P f (vs ++ caps) w fun e w' => ∃ v, e = .returned v ∧ ListK P ops K k (i + 1) (a.put (some d) v) w') (hw : Region.wanted ⟨some d, .call { callee := .value fo, args := args, argTypes := tys }, ty, pos, aft, gd⟩ (yielded ops a.tmps) = true := by rfl) : ListK P ops K (k + 1) i a w := by
  unfold ListK opG
  simp only [hi]
  rw [if_pos hw]
  simp only [Oper.wp, execOp, resolve, hp, hf, Deferred.ofValue]
  simp [invoke, he, Oper.upon]
  refine h.mono ?_
  rintro e w' ⟨v, rfl, h1⟩
  exact h1
end
theorem RI.else {Z : Nat → Prop} {W W' : World} {g n c : Nat} {xs : List Int} (h : RI W (.slice (some ⟨g, 0, none⟩) n c) xs) (he : Else Z W W') (hz : ¬ Z g) : RI W' (.slice (some ⟨g, 0, none⟩) n c) xs := by
  obtain ⟨A, c', h1, h2, h3⟩ := h
  cases h1
  refine ⟨_, _, rfl, h2, fun k x hx => ?_⟩
  obtain ⟨b, off, e1, e2, e3⟩ := h3 k x hx
  cases e1
  exact ⟨_, _, rfl, Nat.lt_of_lt_of_le e2 he.size, he.cell hz e3⟩

section
variable {P : Program} {ops : Array Oper} {K : Act → World → Prop} {k i d : Nat} {a : Act} {w w' : World} {ty : TypeId} {pos : String} {aft : Array Edge} {v : Value} {gd : Option (Nat × Bool)}
theorem ListK.mkS {t : TypeId} {x y : Operand} {u u' : Value} (hi : ops[i]? = some ⟨some d, .makeSlice t x y, ty, pos, aft, gd⟩) (hx : a.eval x = u) (hy : a.eval y = u') (hv : (Instr.makeSlice t u u').run P w = .ok v w')
    (h : ListK P ops K k (i + 1) (a.put (some d) v) w') (hw : Region.wanted ⟨some d, .makeSlice t x y, ty, pos, aft, gd⟩ (yielded ops a.tmps) = true := by rfl) : ListK P ops K (k + 1) i a w := ListK.valW hi hw (by simp [execOp, hx, hy, hv]) h
theorem ListK.mkM {t : TypeId} (hi : ops[i]? = some ⟨some d, .makeMap t none, ty, pos, aft, gd⟩) (hv : (Instr.makeMap t none).run P w = .ok v w')
    (h : ListK P ops K k (i + 1) (a.put (some d) v) w') (hw : Region.wanted ⟨some d, .makeMap t none, ty, pos, aft, gd⟩ (yielded ops a.tmps) = true := by rfl) : ListK P ops K (k + 1) i a w := ListK.valW hi hw (by simp [execOp, hv]) h
theorem ListK.mkF {f : Fn} {cs : Array Operand} {vs : Array Value} (hi : ops[i]? = some ⟨some d, .makeFunc f #[] cs, ty, pos, aft, gd⟩) (hc : cs.map a.eval = vs)
    (h : ListK P ops K k (i + 1) (a.put (some d) (.func f #[] vs)) w) (hw : Region.wanted ⟨some d, .makeFunc f #[] cs, ty, pos, aft, gd⟩ (yielded ops a.tmps) = true := by rfl) : ListK P ops K (k + 1) i a w :=
  ListK.valW hi hw (by
    have : (Instr.makeFunc f #[] vs).run P w = .ok (.func f #[] vs) w := rfl
    simp [execOp, hc, this]) h
end
abbrev TP (W : World) (v : Bool) : Ending → World → Prop := fun e w' => e = .returned (.bool v) ∧ Below W.heap.size W w'
section
variable {P : Program} {ops : Array Oper} {K : Act → World → Prop} {Kp : Nat → World → World → Prop} {fuel : Nat} {listed : Array Bool} {a : Act} {w : World} {i j d : Nat} {ty : TypeId} {pos : String} {aft : Array Edge} {gd : Option (Nat × Bool)}
theorem StepK.buildG {t : TypeId} {n : Nat} {parts : Array (Nat × Operand)} {ps : Array (Nat × Value)} {v : Value} {w' : World} (hi : ops[i]? = some ⟨some d, .buildSlice t n parts, ty, pos, aft, gd⟩)
    (hp : parts.map (fun (i, x) => (i, a.eval x)) = ps) (hv : (Instr.buildSlice t n ps).run P w = .ok v w') (hk : Kp i w w')
    (h : AnyK P ops K Kp fuel (listed.setIfInBounds i true) (a.put (some d) v) w') (hw : Region.wanted ⟨some d, .buildSlice t n parts, ty, pos, aft, gd⟩ (yielded ops a.tmps) = true := by rfl) : StepK P ops K Kp fuel listed a w i := by
  unfold StepK opG
  simp only [hi]
  rw [if_pos hw]
  simp only [Oper.wp, execOp, hp]; simp [hv, Oper.upon]; exact ⟨hk, h⟩
end
section
variable {P : Program} {ops : Array Oper} {Q : Exit → Act → World → Prop} {md : Region.Mode}
/-- How many operations are not listed yet. -/
def leftOf (listed : Array Bool) : Nat → Nat
  | 0 => 0
  | k + 1 => leftOf listed k + if listed.getD k true = false then 1 else 0
theorem leftOf_set {listed : Array Bool} {i : Nat} (h : listed.getD i true = false) : ∀ k, leftOf (listed.setIfInBounds i true) k + (if i < k then 1 else 0) = leftOf listed k
  | 0 => rfl
  | k + 1 => by
    have ih := leftOf_set h k
    have hi : i < listed.size := by
      by_cases hlt : i < listed.size
      · exact hlt
      · simp [hlt] at h
    have hu : ∀ A : Array Bool, leftOf A (k + 1) = leftOf A k + if A.getD k true = false then 1 else 0 := fun _ => rfl
    rw [hu, hu]
    by_cases e : k = i
    · subst e
      have e1 : (if k < k then 1 else 0) = 0 := if_neg (by omega)
      have e2 : (if k < k + 1 then 1 else 0) = 1 := if_pos (by omega)
      have e3 : (if (listed.setIfInBounds k true).getD k true = false then 1 else 0) = 0 := if_neg (by simp [hi])
      have e4 : (if listed.getD k true = false then 1 else 0) = 1 := if_pos h
      omega
    · have e0 : (listed.setIfInBounds i true).getD k true = listed.getD k true := by
        simp [Ne.symm e, Array.getD_eq_getD_getElem?]
      rw [e0]
      by_cases h2 : i < k
      · have e1 : (if i < k then 1 else 0) = 1 := if_pos h2
        have e2 : (if i < k + 1 then 1 else 0) = 1 := if_pos (by omega)
        omega
      · have e1 : (if i < k then 1 else 0) = 0 := if_neg h2
        have e2 : (if i < k + 1 then 1 else 0) = 0 := if_neg (by omega)
        omega
theorem AnyG.inv {Kp : Nat → World → World → Prop} (S : Array Bool → Act → World → Prop)
    (hstep : ∀ listed a w i, S listed a w → i ∈ Region.ready md ops listed → opG P ops Q i (fun a' w' => Kp i w w' ∧ S (listed.setIfInBounds i true) a' w') a w)
    (hdone : ∀ listed a w, S listed a w → Region.ready md ops listed = [] → Q .normal a w) : ∀ (fuel : Nat) (listed : Array Bool) (a : Act) (w : World), S listed a w → leftOf listed ops.size ≤ fuel → AnyG P md ops Q Kp fuel listed a w
  | 0, listed, a, w, hS, hf => by
    have hr : Region.ready md ops listed = [] := by
      cases h : Region.ready md ops listed with
      | nil => rfl
      | cons i r =>
        have hi : i ∈ Region.ready md ops listed := by rw [h]; exact List.mem_cons_self
        obtain ⟨h1, o, ho, _⟩ := mem_ready.1 hi
        have := leftOf_set h1 ops.size
        rw [if_pos (Array.getElem?_eq_some_iff.1 ho).1] at this
        omega
    exact ⟨hr, hdone _ _ _ hS hr⟩
  | fuel + 1, listed, a, w, hS, hf => by
    refine ⟨hdone _ _ _ hS, fun i hi => ?_⟩
    obtain ⟨h1, o, ho, _⟩ := mem_ready.1 hi
    have hl := leftOf_set h1 ops.size
    rw [if_pos (Array.getElem?_eq_some_iff.1 ho).1] at hl
    refine opG_mono ?_ (hstep listed a w i hS hi)
    rintro a' w' ⟨hk, hS'⟩
    exact ⟨hk, AnyG.inv S hstep hdone fuel _ a' w' hS' (by omega)⟩
end
/-- The words on the slots: number by number. -/
abbrev Words := List (Value → World → Prop)
def Words.at_ (L : Words) (i : Nat) : Value → World → Prop := (L[i]?).getD (fun _ _ => True)
def StableW (p : Value → World → Prop) : Prop := ∀ v w w', p v w → Below w.heap.size w w' → p v w'
/-- The slots that the operations write: all, once each. -/
def dstsB (ops : Array Oper) (N : Nat) : Bool := (List.range ops.size).all fun i => match ops[i]? with
  | some o => (match o.dst with | some d => decide (d < N) && (List.range ops.size).all (fun j => j == i || match ops[j]? with | some oj => oj.dst != some d | none => true) | none => false)
  | none => true
theorem dsts_spec {ops : Array Oper} {N i : Nat} {o : Oper} (h : dstsB ops N = true) (hi : ops[i]? = some o) : ∃ d, o.dst = some d ∧ d < N ∧ ∀ j oj, ops[j]? = some oj → j ≠ i → oj.dst ≠ some d := by
  have h1 := List.all_eq_true.1 h i (List.mem_range.2 (Array.getElem?_eq_some_iff.1 hi).1)
  simp only [hi] at h1
  cases hd : o.dst with
  | none => simp [hd] at h1
  | some d =>
    simp only [hd, Bool.and_eq_true, decide_eq_true_eq] at h1
    refine ⟨d, rfl, h1.1, fun j oj hj hne => ?_⟩
    have h2 := List.all_eq_true.1 h1.2 j (List.mem_range.2 (Array.getElem?_eq_some_iff.1 hj).1)
    simp only [hj, Bool.or_eq_true, beq_iff_eq, bne_iff_ne] at h2
    rcases h2 with h2 | h2
    · exact absurd h2 hne
    · exact h2

section
variable {P : Program} {ops : Array Oper} {L : Words}
/-- What an operation that is carried out must leave. -/
def OpW (P : Program) (p : Value → World → Prop) (o : Oper) (d : Nat) (a : Act) (w : World) : Prop :=
  o.wp P a w (fun a' w' => ∃ v, a' = a.put (some d) v ∧ p v w' ∧ Below w.heap.size w w') (fun _ _ _ => False)
def OpS (P : Program) (ops : Array Oper) (p : Value → World → Prop) (o : Oper) (d : Nat) (a : Act) (w : World) : Prop :=
  if Region.wanted o (yielded ops a.tmps) = true then OpW P p o d a w else p undef w
/-- An operation keeps its word, if those for which it waits keep theirs. -/
def OpOk (P : Program) (ops : Array Oper) (L : Words) (N : Nat) (a0 : Act) (w0 : World) (i : Nat) : Prop :=
  ∀ (o : Oper) (d : Tmp), ops[i]? = some o → o.dst = some d → ∀ (a : Act) (w : World), a.tmps.size = N → Below w0.heap.size w0 w → (∀ e : Tmp, (∀ (j : Nat) (oj : Oper), ops[j]? = some oj → oj.dst ≠ some e) → a.eval (.tmp e) = a0.eval (.tmp e)) →
    (∀ (j : Nat) (oj : Oper) (dj : Tmp), ops[j]? = some oj → oj.dst = some dj → waitsB .any o j = true → L.at_ j (a.eval (.tmp dj)) w) → OpS P ops (L.at_ i) o d a w
structure SInv (ops : Array Oper) (L : Words) (N : Nat) (a0 : Act) (w0 : World) (listed : Array Bool) (a : Act) (w : World) : Prop where
  sz : a.tmps.size = N
  df : a.defers = a0.defers
  low : Below w0.heap.size w0 w
  ls : listed.size = ops.size
  rest : ∀ e : Tmp, (∀ (j : Nat) (oj : Oper), ops[j]? = some oj → oj.dst ≠ some e) → a.eval (.tmp e) = a0.eval (.tmp e)
  slots : ∀ (j : Nat) (oj : Oper) (dj : Tmp), ops[j]? = some oj → oj.dst = some dj → listed[j]? = some true → L.at_ j (a.eval (.tmp dj)) w

theorem SInv.step {N : Nat} {a0 : Act} {w0 : World} {Q : Exit → Act → World → Prop} (hd : dstsB ops N = true) (hst : ∀ i, StableW (L.at_ i)) (hop : ∀ i, i < ops.size → OpOk P ops L N a0 w0 i)
    (hQ : LetsOut (fun _ _ _ => False) → LetsOut Q) {listed : Array Bool} {a : Act} {w : World} {i : Nat} (hS : SInv ops L N a0 w0 listed a w) (hi : i ∈ Region.ready .any ops listed) :
    opG P ops Q i (fun a' w' => True ∧ SInv ops L N a0 w0 (listed.setIfInBounds i true) a' w') a w := by
  obtain ⟨h1, o, ho, hall⟩ := mem_ready.1 hi
  obtain ⟨d, hod, hdN, hdu⟩ := dsts_spec hd ho
  have hlt := (Array.getElem?_eq_some_iff.1 ho).1
  have hdeps : ∀ j oj dj, ops[j]? = some oj → oj.dst = some dj → waitsB .any o j = true → L.at_ j (a.eval (.tmp dj)) w := by
    intro j oj dj hj hdj hw
    obtain ⟨e, he, hb, rfl⟩ := waits_iff.1 hw
    have h2 := hall e he hb
    refine hS.slots _ oj dj hj hdj ?_
    have hlt2 := (Array.getElem?_eq_some_iff.1 hj).1
    rw [← hS.ls] at hlt2
    simp [hlt2] at h2 ⊢
    exact h2
  have hok := hop i hlt o d ho hod a w hS.sz hS.low hS.rest hdeps
  have hput : ∀ v w', L.at_ i v w' → Below w.heap.size w w' → SInv ops L N a0 w0 (listed.setIfInBounds i true) (a.put (some d) v) w' := by
    intro v w' hv hb
    refine ⟨by rw [size_put]; exact hS.sz, by rw [defers_put]; exact hS.df, hS.low.trans (hb.mono hS.low.size), by simp [hS.ls], fun e he => ?_, fun j oj dj hj hdj hl => ?_⟩
    · rw [ev_ne (by rintro rfl; exact he i o ho hod)]
      exact hS.rest e he
    · by_cases e : j = i
      · subst e
        rw [ho] at hj
        cases hj
        rw [hod] at hdj
        cases hdj
        rw [ev_same (by rw [hS.sz]; exact hdN)]
        exact hv
      · have hne : dj ≠ d := by
          rintro rfl
          exact hdu j oj hj e hdj
        rw [ev_ne hne]
        have hl' : listed[j]? = some true := by
          rw [Array.getElem?_setIfInBounds, if_neg (Ne.symm e)] at hl
          exact hl
        exact hst j _ _ _ (hS.slots j oj dj hj hdj hl') hb
  unfold OpS at hok
  unfold opG
  simp only [ho]
  split
  · rename_i hw
    rw [if_pos hw] at hok
    unfold OpW at hok
    unfold Oper.wp at *
    generalize (execOp a.eval o).run P w = r at *
    cases r with
    | ok x w' =>
      cases x <;> simp only [Oper.upon] at hok ⊢ <;>
        first
          | (obtain ⟨v, e1, e2, e3⟩ := hok
             rw [e1]
             exact ⟨trivial, hput v _ e2 e3⟩)
          | (refine Calls.mono hok (fun e w'' he => ?_)
             cases e with
             | returned u =>
               obtain ⟨v, e1, e2, e3⟩ := he
               show True ∧ SInv ops L N a0 w0 _ (a.put o.dst u) w''
               rw [e1]
               exact ⟨trivial, hput v _ e2 e3⟩
             | panicked c => exact he.elim
             | outgrown => exact hQ he)
          | (refine Rows.mono hok (fun u w'' he => ?_)
             obtain ⟨v, e1, e2, e3⟩ := he
             rw [e1]
             exact ⟨trivial, hput v _ e2 e3⟩)
          | exact hok.elim
    | halt x w' => cases x <;> simp only [Oper.upon] at hok ⊢
  · rename_i hw
    rw [if_neg hw] at hok
    rw [hod]
    exact ⟨trivial, hput _ _ hok (Below.refl _ _)⟩
end
/-- Each operation waits for elder ones alone. -/
def forwardB (ops : Array Oper) : Bool := (List.range ops.size).all fun i => match ops[i]? with
  | some o => o.after.all fun e => !Region.binds .any e || decide (e.on < i)
  | none => true
theorem forward_spec {ops : Array Oper} (h : forwardB ops = true) {i : Nat} {o : Oper} (hi : ops[i]? = some o) : ∀ e ∈ o.after, Region.binds .any e = true → e.on < i := by
  intro e he hb
  have h1 := List.all_eq_true.1 h i (List.mem_range.2 (Array.getElem?_eq_some_iff.1 hi).1)
  simp only [hi] at h1
  rw [Array.all_eq_true'] at h1
  have h2 := h1 e he
  simp only [hb, Bool.not_true, Bool.false_or, decide_eq_true_eq] at h2
  exact h2
theorem all_listed {ops : Array Oper} (h : forwardB ops = true) {listed : Array Bool} (hl : listed.size = ops.size) (hr : Region.ready .any ops listed = []) : ∀ i, i < ops.size → listed[i]? = some true := by
  intro i
  induction i using Nat.strongRecOn with
  | _ i ih =>
    intro hi
    have ho : ops[i]? = some ops[i] := Array.getElem?_eq_getElem hi
    have hli : i < listed.size := by omega
    cases hv : listed[i] with
    | true => rw [Array.getElem?_eq_getElem hli, hv]
    | false =>
      have : i ∈ Region.ready .any ops listed := by
        refine mem_ready.2 ⟨by simp [hli, hv], ops[i], ho, fun e he hb => ?_⟩
        have h1 := forward_spec h ho e he hb
        have h2 := ih e.on h1 (by omega)
        simp [Array.getD_eq_getD_getElem?, h2]
      rw [hr] at this
      cases this
/-- No operation writes slot e. -/
def ndstB (ops : Array Oper) (e : Nat) : Bool := ops.all fun o => o.dst != some e
theorem ndst_spec {ops : Array Oper} {e : Nat} (h : ndstB ops e = true) : ∀ (j : Nat) (oj : Oper), ops[j]? = some oj → oj.dst ≠ some e := by
  intro j oj hj
  unfold ndstB at h
  have := (Array.all_eq_true.1 h) j (Array.getElem?_eq_some_iff.1 hj).1
  obtain ⟨hlt, he⟩ := Array.getElem?_eq_some_iff.1 hj
  rw [he] at this
  simpa using this
/-- All of the first k operations keep their words. -/
def OpsOk (P : Program) (ops : Array Oper) (L : Words) (N : Nat) (a0 : Act) (w0 : World) : Nat → Prop
  | 0 => True
  | k + 1 => OpsOk P ops L N a0 w0 k ∧ OpOk P ops L N a0 w0 k
theorem OpsOk.at_ {P : Program} {ops : Array Oper} {L : Words} {N : Nat} {a0 : Act} {w0 : World} : ∀ {k : Nat}, OpsOk P ops L N a0 w0 k → ∀ i, i < k → OpOk P ops L N a0 w0 i
  | k + 1, h, i, hi => by
    by_cases e : i = k
    · subst e
      exact h.2
    · exact OpsOk.at_ h.1 i (by omega)
def AllS : Words → Prop
  | [] => True
  | p :: L => StableW p ∧ AllS L
theorem AllS.at_ : ∀ {L : Words}, AllS L → ∀ i, StableW (L.at_ i)
  | [], _, i => fun _ _ _ h _ => by simp [Words.at_]
  | p :: L, h, 0 => h.1
  | p :: L, h, i + 1 => AllS.at_ h.2 i

section
variable {P : Program} {ops : Array Oper} {L : Words} {N : Nat} {a0 : Act} {w0 : World} {i d : Nat} {ty : TypeId} {pos : String} {aft : Array Edge} {gd : Option (Nat × Bool)}
/-- What is known when operation i comes up. -/
structure Dp (ops : Array Oper) (L : Words) (N : Nat) (a0 : Act) (w0 : World) (i : Nat) (a : Act) (w : World) : Prop where
  sz : a.tmps.size = N
  low : Below w0.heap.size w0 w
  out : ∀ e, ndstB ops e = true → a.eval (.tmp e) = a0.eval (.tmp e)
  dep : ∀ (j d : Nat), (ops[j]?).bind (·.dst) = some d → (ops[i]?).map (fun o => waitsB .any o j) = some true → L.at_ j (a.eval (.tmp d)) w
/-- By the guard: A, or B. -/
def Gd (ops : Array Oper) (gd : Option (Nat × Bool)) (a : Act) (A B : Prop) : Prop := match gd with
  | none => A
  | some (j, b) => ∃ e c, (ops[j]?).bind (·.dst) = some e ∧ a.eval (.tmp e) = .bool c ∧ ((c == b) = true → A) ∧ ((c == b) = false → B)
theorem OpOk.gen {op : Op} (hi : ops[i]? = some ⟨some d, op, ty, pos, aft, gd⟩) (h : ∀ a w, Dp ops L N a0 w0 i a w → Gd ops gd a (OpW P (L.at_ i) ⟨some d, op, ty, pos, aft, gd⟩ d a w) (L.at_ i undef w)) : OpOk P ops L N a0 w0 i := by
  intro o d' ho hod a w hz hb hr hdep
  rw [hi] at ho
  cases ho
  cases hod
  have hg := h a w ⟨hz, hb, fun e he => hr e (ndst_spec he), fun j dj hj hw => by
    rw [Option.bind_eq_some_iff] at hj
    obtain ⟨oj, h1, h2⟩ := hj
    rw [hi] at hw
    simp at hw
    exact hdep j oj dj h1 h2 hw⟩
  unfold OpS
  cases gd with
  | none =>
    rw [if_pos (show Region.wanted _ _ = true from rfl)]
    exact hg
  | some jb =>
    obtain ⟨j, b⟩ := jb
    obtain ⟨e, c, h1, h2, h3, h4⟩ := hg
    have hw : Region.wanted ⟨some d, op, ty, pos, aft, some (j, b)⟩ (yielded ops a.tmps) = (c == b) := wanted_g h1 h2 rfl
    rw [hw]
    split
    · rename_i hc
      exact h3 hc
    · rename_i hc
      exact h4 (by simpa using hc)
variable {a : Act} {w w' : World} {p : Value → World → Prop} {v : Value}
theorem OpW.val {o : Oper} (hd : o.dst = some d) (hr : (execOp a.eval o).run P w = .ok (.value v) w') (hp : p v w') (hb : Below w.heap.size w w') : OpW P p o d a w := by
  unfold OpW
  simp only [Oper.wp, hr, Oper.upon, hd]
  exact ⟨v, rfl, hp, hb⟩
theorem OpW.move {x : Operand} (hx : a.eval x = v) (hp : p v w) : OpW P p ⟨some d, .move x, ty, pos, aft, gd⟩ d a w := OpW.val rfl (by simp [execOp, hx]) hp (Below.refl _ _)
theorem OpW.assign {x : Operand} (hx : a.eval x = v) (hp : p v w) : OpW P p ⟨some d, .assign x, ty, pos, aft, gd⟩ d a w := OpW.val rfl (by simp [execOp, hx]) hp (Below.refl _ _)
theorem OpW.load {t : TypeId} {x : Operand} {ad : Addr} (hx : a.eval x = .pointer (some ad)) (hv : (Instr.loadAt t (.pointer (some ad))).run P w = .ok v w) (hp : p v w) : OpW P p ⟨some d, .load t x, ty, pos, aft, gd⟩ d a w :=
  OpW.val rfl (by simp [execOp, hx, hv]) hp (Below.refl _ _)
theorem OpW.field {t : TypeId} {x : Operand} {f : Nat} {u : Value} (hx : a.eval x = u) (hv : (Instr.fieldAt t u f).run P w = .ok v w) (hp : p v w) : OpW P p ⟨some d, .fieldAddr t x f, ty, pos, aft, gd⟩ d a w :=
  OpW.val rfl (by simp [execOp, hx, hv]) hp (Below.refl _ _)
theorem OpW.index {t : TypeId} {x y : Operand} {u u' : Value} (hx : a.eval x = u) (hy : a.eval y = u') (hv : (Instr.indexAt t u u').run P w = .ok v w) (hp : p v w) : OpW P p ⟨some d, .indexAddr t x y, ty, pos, aft, gd⟩ d a w :=
  OpW.val rfl (by simp [execOp, hx, hy, hv]) hp (Below.refl _ _)
theorem OpW.bin {b : BinOp} {t t' : TypeId} {x y : Operand} {u u' : Value} (hx : a.eval x = u) (hy : a.eval y = u') (hv : (do eqGuard b t x y u u'; binOp b t u u' : Sem Value).run P w = .ok v w) (hp : p v w) : OpW P p ⟨some d, .binOp b t x y t', ty, pos, aft, gd⟩ d a w :=
  OpW.val rfl (by
    simp only [execOp, hx, hy]
    have := hv
    simp only [Sem.run_bind] at this ⊢
    rw [this]
    simp) hp (Below.refl _ _)
theorem OpW.un {b : UnOp} {t : TypeId} {x : Operand} {u : Value} (hx : a.eval x = u) (hv : (Op.unary b u).run P w = .ok v w) (hp : p v w) : OpW P p ⟨some d, .unOp b t x, ty, pos, aft, gd⟩ d a w :=
  OpW.val rfl (by simp [execOp, hx, hv]) hp (Below.refl _ _)
theorem OpW.pick {c x y : Operand} {b : Bool} (hc : a.eval c = .bool b) (hp : p (if b then a.eval x else a.eval y) w) : OpW P p ⟨some d, .pick c x y, ty, pos, aft, gd⟩ d a w :=
  OpW.val rfl (by simp [execOp, hc, asBool]) hp (Below.refl _ _)
theorem OpW.extract {x : Operand} {m : Nat} {u : Value} (hx : a.eval x = u) (hv : (Instr.extract u m).run P w = .ok v w) (hp : p v w) : OpW P p ⟨some d, .extract x m, ty, pos, aft, gd⟩ d a w :=
  OpW.val rfl (by simp [execOp, hx, hv]) hp (Below.refl _ _)
theorem OpW.bld {t : TypeId} {parts : Array (Nat × Operand)} {ps : Array (Nat × Value)} (hp : parts.map (fun (i, x) => (i, a.eval x)) = ps) (hv : (Instr.build t ps).run P w = .ok v w) (hq : p v w) : OpW P p ⟨some d, .build t parts, ty, pos, aft, gd⟩ d a w :=
  OpW.val rfl (by simp only [execOp, hp]; simp [hv]) hq (Below.refl _ _)
theorem OpW.bsl {t : TypeId} {m : Nat} {parts : Array (Nat × Operand)} {ps : Array (Nat × Value)} (hp : parts.map (fun (i, x) => (i, a.eval x)) = ps) (hv : (Instr.buildSlice t m ps).run P w = .ok v w') (hq : p v w') (hb : Below w.heap.size w w') : OpW P p ⟨some d, .buildSlice t m parts, ty, pos, aft, gd⟩ d a w :=
  OpW.val rfl (by simp only [execOp, hp]; simp [hv]) hq hb
theorem OpW.len {x : Operand} {tys : Array TypeId} {u : Value} (hx : a.eval x = u) (hv : (builtin .len tys ty #[false] #[u]).run P w = .ok (.value v) w) (hc : (match x with | .const _ => true | _ => false) = false) (hp : p v w) : OpW P p ⟨some d, .call { callee := .builtin .len, args := #[x], argTypes := tys }, ty, pos, aft, gd⟩ d a w :=
  OpW.val rfl (by cases x <;> simp_all [execOp, resolve, invoke]) hp (Below.refl _ _)
theorem OpW.call {f : FuncId} {args : Array Operand} {tys : Array TypeId} {vs : Array Value} (he : ∀ args w, (callFunc f args).run P w = .ok (.enter f args) w) (hp : args.map a.eval = vs)
    (h : Calls P f vs w fun e w' => ∃ v, e = .returned v ∧ p v w' ∧ Below w.heap.size w w') : OpW P p ⟨some d, .call { callee := .value (.func f), args := args, argTypes := tys }, ty, pos, aft, gd⟩ d a w := by
  unfold OpW
  simp only [Oper.wp, execOp, resolve, hp, Act.eval, Deferred.ofValue]
  simp [invoke, he, Oper.upon]
  refine h.mono ?_
  rintro e w' ⟨v, rfl, h1, h2⟩
  exact ⟨v, rfl, h1, h2⟩
theorem gd_none {A B : Prop} (h : A) : Gd ops none a A B := h
theorem Dp.cell (H : Dp ops L N a0 w0 i a w) {q : Addr} {u : Value} (hc : w0.cell? q = some u) : w.cell? q = some u := (H.low.cell (block_lt_of_cell hc)).trans hc
end
section
variable {P : Program} {ops : Array Oper} {L : Words} {N : Nat} {a0 : Act} {w0 : World}
/-- Each operation waits for those of which it knows something, and for elder ones alone: a plain region is one of the orders. -/
theorem SInv.list (hd : dstsB ops N = true) (hfw : forwardB ops = true) (hst : ∀ i, StableW (L.at_ i)) (K : Act → World → Prop) : ∀ (k i : Nat), i + k = ops.size → (hop : ∀ i, i < ops.size → OpOk P ops L N a0 w0 i) →
    (hK : ∀ a w, (∃ listed, SInv ops L N a0 w0 listed a w ∧ ∀ j, j < ops.size → listed[j]? = some true) → K a w) → ∀ (listed : Array Bool) (a : Act) (w : World), SInv ops L N a0 w0 listed a w → (∀ j, j < ops.size → listed[j]? = some (decide (j < i))) → ListK P ops K k i a w := by
  intro k
  induction k with
  | zero =>
    intro i hi hop hK listed a w hS hl
    have : ListK P ops K 0 i a w = K a w := by unfold ListK; rfl
    rw [this]
    exact hK a w ⟨listed, hS, fun j hj => by rw [hl j hj]; simp; omega⟩
  | succ k ih =>
    intro i hi hop hK listed a w hS hl
    have hlt : i < ops.size := by omega
    have ho : ops[i]? = some ops[i] := Array.getElem?_eq_getElem hlt
    have hready : i ∈ Region.ready .any ops listed := by
      refine mem_ready.2 ⟨?_, ops[i], ho, fun e he hb => ?_⟩
      · have := hl i hlt
        simp only [Nat.lt_irrefl, decide_false] at this
        simp [Array.getD_eq_getD_getElem?, this]
      · have h1 := forward_spec hfw ho e he hb
        have := hl e.on (by omega)
        simp only [h1, decide_true] at this
        simp [Array.getD_eq_getD_getElem?, this]
    have hs := SInv.step (Q := fun _ _ _ => False) hd hst hop (fun h => h) hS hready
    have : ListK P ops K (k + 1) i a w = opG P ops (fun _ _ _ => False) i (ListK P ops K k (i + 1)) a w := by unfold ListK; rfl
    rw [this]
    refine opG_mono ?_ hs
    rintro a' w' ⟨-, hS'⟩
    refine ih (i + 1) (by omega) hop hK _ a' w' hS' (fun j hj => ?_)
    rw [Array.getElem?_setIfInBounds]
    by_cases e : i = j
    · subst e
      rw [if_pos rfl, if_pos (by rw [hS.ls]; exact hj)]
      simp
    · rw [if_neg e, hl j hj]
      congr 1
      by_cases h2 : j < i
      · simp [h2, show j < i + 1 by omega]
      · simp [h2, show ¬ j < i + 1 by omega]
/-- A word that holds under a condition; else nothing was computed. -/
def Wd (C : Prop) (p : Value → World → Prop) : Value → World → Prop := fun v w => (C → p v w) ∧ (¬ C → v = undef)
theorem Wd.st {C : Prop} {p : Value → World → Prop} (h : StableW p) : StableW (Wd C p) := fun v w w' hv hb => ⟨fun hc => h v w w' (hv.1 hc) hb, hv.2⟩
theorem wanted_undef {op : Op} {b : Bool} {j e : Nat} {dd : Option Tmp} {a : Act} {ty : TypeId} {pos : String} {aft : Array Edge} (hj : (ops[j]?).bind (·.dst) = some e) (he : a.eval (.tmp e) = undef) : Region.wanted ⟨dd, op, ty, pos, aft, some (j, b)⟩ (yielded ops a.tmps) = false := by
  rw [Option.bind_eq_some_iff] at hj
  obtain ⟨oj, h1, h2⟩ := hj
  unfold Region.wanted yielded
  simp only [h1]
  simp only [Act.eval, Array.getD_eq_getD_getElem?] at he
  cases hq : a.tmps[e]? with
  | none => simp [h2, hq]
  | some u =>
    rw [hq] at he
    simp at he
    subst he
    simp [h2, hq, undef]
variable {i d : Nat} {ty : TypeId} {pos : String} {aft : Array Edge}
end
theorem OpW.sliceH {P : Program} {p : Value → World → Prop} {d : Nat} {a : Act} {w : World} {ty : TypeId} {pos : String} {aft : Array Edge} {gd : Option (Nat × Bool)} {t : TypeId} {x y : Operand} {u u' v : Value} (hx : a.eval x = u) (hy : a.eval y = u') (hv : (Instr.sliceAt t u none (some u') none).run P w = .ok v w) (hp : p v w) :
    OpW P p ⟨some d, .slice t x none (some y) none, ty, pos, aft, gd⟩ d a w := OpW.val rfl (by simp [execOp, hx, hy, hv]) hp (Below.refl _ _)
theorem IntsAt.take {w : World} {B : Nat} {A : Option Addr} {l : List Int} (h : IntsAt w B A l) (k : Nat) : IntsAt w B A (l.take k) := by
  intro j x hj
  rw [List.getElem?_take] at hj
  split at hj
  · exact h j x hj
  · cases hj
theorem ListK.conv {P : Program} {ops : Array Oper} {K : Act → World → Prop} {k i d : Nat} {a : Act} {w : World} {ty : TypeId} {pos : String} {aft : Array Edge} {gd : Option (Nat × Bool)} {s t : TypeId} {x : Operand} {u v : Value} (hi : ops[i]? = some ⟨some d, .convert s t x, ty, pos, aft, gd⟩) (hx : a.eval x = u) (hv : (convert s t u).run P w = .ok v w)
    (h : ListK P ops K k (i + 1) (a.put (some d) v) w) (hw : Region.wanted ⟨some d, .convert s t x, ty, pos, aft, gd⟩ (yielded ops a.tmps) = true := by rfl) : ListK P ops K (k + 1) i a w :=
  ListK.valW hi hw (by simp [execOp, hx, hv]) h
abbrev RCn (b3 : Nat) (o t : Int) (A : Option Addr) (nl c : Nat) : World → Prop := fun w => w.cell? ⟨b3, 0, none⟩ = some (.int .i64 o) ∧ w.cell? ⟨b3, 1, none⟩ = some (.int .i64 t) ∧ w.cell? ⟨b3, 2, none⟩ = some (.slice A nl c)
theorem RCn.of {b3 : Nat} {o t : Int} {A : Option Addr} {nl c : Nat} {w w' : World} (h : RCn b3 o t A nl c w) (hk : ∀ i u, w.cell? ⟨b3, i, none⟩ = some u → w'.cell? ⟨b3, i, none⟩ = some u) : RCn b3 o t A nl c w' := ⟨hk _ _ h.1, hk _ _ h.2.1, hk _ _ h.2.2⟩
theorem ListK.passU {P : Program} {ops : Array Oper} {K : Act → World → Prop} {k i j d : Nat} {a : Act} {w : World} {ty : TypeId} {pos : String} {aft : Array Edge} {op : Op} {b : Bool} {e : Nat} (hi : ops[i]? = some ⟨some d, op, ty, pos, aft, some (j, b)⟩) (hj : (ops[j]?).bind (·.dst) = some e) (he : a.eval (.tmp e) = undef)
    (h : ListK P ops K k (i + 1) (a.put (some d) undef) w) : ListK P ops K (k + 1) i a w := ListK.passW hi (wanted_undef hj he) h
def dset (d : Nat) (ps : List (Nat × Int)) : Nat := ps.foldl (fun d p => d ||| 2 ^ p.1) d
def lastD (x : Int) (ps : List (Nat × Int)) : Int := ps.foldl (fun _ p => p.2) x
@[simp] theorem dset_nil (d : Nat) : dset d [] = d := rfl
@[simp] theorem dset_cons (d : Nat) (p : Nat × Int) (ps : List (Nat × Int)) : dset d (p :: ps) = dset (d ||| 2 ^ p.1) ps := rfl
@[simp] theorem lastD_nil (x : Int) : lastD x [] = x := rfl
@[simp] theorem lastD_cons (x : Int) (p : Nat × Int) (ps : List (Nat × Int)) : lastD x (p :: ps) = lastD p.2 ps := rfl
/-! The table of last days. -/
/-! What there is stays the same, and nobody has less than nothing. -/
def sumTo (st : Nat → Int) : Nat → Int
  | 0 => 0
  | n + 1 => sumTo st n + st n
/-- Stocks that there can be. -/
structure Fair (o t : Int) (st : Nat → Int) : Prop where
  pos : ∀ i, 0 ≤ st i
  sum : sumTo st o.toNat = t
/-! Sooner. -/
/-! Wider. -/
/-! Later. -/
theorem OpW.conv {P : Program} {p : Value → World → Prop} {d : Nat} {a : Act} {w : World} {ty : TypeId} {pos : String} {aft : Array Edge} {gd : Option (Nat × Bool)} {v : Value} {s t : TypeId} {x : Operand} {u : Value} (hx : a.eval x = u) (hv : (convert s t u).run P w = .ok v w) (hp : p v w) :
    OpW P p ⟨some d, .convert s t x, ty, pos, aft, gd⟩ d a w := OpW.val rfl (by simp [execOp, hx, hv]) hp (Below.refl _ _)
theorem OpW.imp {P : Program} {p : Value → World → Prop} {d : Nat} {a : Act} {w : World} {o : Oper} {c : Prop} (h : OpW P p o d a w) : OpW P (fun v w => c → p v w) o d a w := by
  unfold OpW at *
  refine Oper.wp_mono (fun a' w' hh => ?_) h
  obtain ⟨v, h1, h2, h3⟩ := hh
  exact ⟨v, h1, fun _ => h2, h3⟩
theorem StableW.imp {p : Value → World → Prop} {c : Prop} (h : StableW p) : StableW (fun v w => c → p v w) := fun v w w' h1 h2 hc => h v w w' (h1 hc) h2
/-! Truths sale by sale. -/
/-- A list of lists that is owned. -/
structure LL (W0 : World) (v : Value) (xs : List (List Int)) (W : World) : Prop where
  low : Below W0.heap.size W0 W
  own : ∃ vs : List Value, vs.length = xs.length ∧ W.ownsRow W0.heap.size 25 1 v xs.length vs ∧ ∀ (i : Nat) (u : Value) (x : List Int), vs[i]? = some u → xs[i]? = some x → W.ownsRow W0.heap.size 3 1 u x.length (x.map (Value.int .i64))
theorem LL.nil (W : World) : LL W (.slice none 0 0) [] W := ⟨Below.refl _ _, [], rfl, World.ownsRow_nil _ _ _ _, fun i u x h => by simp at h⟩
theorem LL.base {W0 W1 W : World} {v : Value} {xs : List (List Int)} (h : LL W1 v xs W) (hb : Below W0.heap.size W0 W1) : LL W0 v xs W := by
  obtain ⟨hl, vs, h1, h2, h3⟩ := h
  exact ⟨hb.trans (hl.mono hb.size), vs, h1, ownsRow_base h2 hb.size, fun i u x hu hx => ownsRow_base (h3 i u x hu hx) hb.size⟩
theorem LL.below {W0 W W' : World} {v : Value} {xs : List (List Int)} (h : LL W0 v xs W) (hb : Below W.heap.size W W') : LL W0 v xs W' := by
  obtain ⟨hl, vs, h1, h2, h3⟩ := h
  exact ⟨hl.trans (hb.mono hl.size), vs, h1, h2.kept (grown_of_below hb) (by cases v.ownBlock <;> simp), fun i u x hu hx => (h3 i u x hu hx).kept (grown_of_below hb) (by cases u.ownBlock <;> simp)⟩
/-- A number of an owned list is stored. -/
theorem OL.set {W0 W : World} {g c : Nat} {xs : List Int} {n : Nat} (h : OL W0 (.slice (some ⟨g, 0, none⟩) xs.length c) xs W) (k : Nat) (d : Int) (hn : n = xs.length) :
    OL W0 (.slice (some ⟨g, 0, none⟩) n c) (xs.set k d) (W.setCell ⟨g, k, none⟩ (.int .i64 d)) := by
  subst hn
  obtain ⟨hl, ho⟩ := h
  rcases ho.2 with ⟨e, _⟩ | ⟨g', cap, cur, e, hb, hg, h1, h2, h3, h4⟩
  · cases e
  · cases e
    refine ⟨?_, by simp, .inr ⟨g, c, cur.setIfInBounds k (.int .i64 d), by simp, hb, ?_, by simpa using h1, h2, by simpa using h3, ?_⟩⟩
    · exact hl.setCell (p := ⟨g, k, none⟩) hb _
    · simp [World.setCell, Array.getElem?_modify, hg]
    · rw [Array.toList_setIfInBounds, List.length_set, List.map_set, ← h4, List.take_set]
theorem LL.one {W0 W : World} {u : Value} {x : List Int} (h : OL W0 u x W) : LL W0 (.slice (some ⟨W.heap.size, 0, none⟩) 1 1) [x] (W.alloc (.cells #[u] 25)) := by
  have hb : Below W.heap.size W (W.alloc (.cells #[u] 25)) := (Below.refl _ W).alloc (Nat.le_refl _) _
  have h2 := h.below hb
  refine ⟨h2.low, [u], rfl, ?_, fun i u' x' h3 h4 => ?_⟩
  · have := World.ownsRow_lit (base := W0.heap.size) (e := 25) (size := 1) W (#[u] : Array Value) 1 h.low.size (by unfold maxLen; omega) (by simp)
    simpa using this
  · match i with
    | 0 =>
      simp only [List.getElem?_cons_zero, Option.some.injEq] at h3 h4
      subst h3 h4
      exact h2.own
    | i + 1 => simp at h3
theorem OL.at {W0 W : World} {A : Option Addr} {n c : Nat} {xs : List Int} (h : OL W0 (.slice A n c) xs W) : IntsAt W W.heap.size A xs := by
  obtain ⟨A', c', e, _, h'⟩ := h.ints
  cases e
  exact h'
theorem LL.form {W0 W : World} {v : Value} {xs : List (List Int)} (h : LL W0 v xs W) : ∃ A c, v = .slice A xs.length c := by
  obtain ⟨_, vs, _, h2, _⟩ := h
  rcases h2.2 with ⟨rfl, h0⟩ | ⟨g, cap, cur, rfl, _⟩
  · exact ⟨none, 0, by rw [h0]⟩
  · exact ⟨_, _, rfl⟩
section
variable {P : Program} {ops : Array Oper} {K : Act → World → Prop} {Kp : Nat → World → World → Prop} {fuel k : Nat} {listed : Array Bool} {a : Act} {w : World} {i d : Nat} {ty : TypeId} {pos : String} {aft : Array Edge} {gd : Option (Nat × Bool)} {u v x : Value} {y : Nat} {tys : Array TypeId} {bi : Builtin}
theorem AnyK.bi2 {R : World → Prop} {T : Nat → Bool} (m : May ops Kp listed R T i ⟨some d, .call { callee := .builtin bi, args := #[.const x, .tmp y], argTypes := tys }, ty, pos, aft, gd⟩)
    (hy : a.eval (.tmp y) = u) (hv : ∀ w, (builtin bi tys ty #[true, false] #[x, u]).run P w = .ok (.value v) w) (hS : R w)
    (h : AnyK P ops K Kp fuel (listed.setIfInBounds i true) (a.put (some d) v) w) (hw : Region.wanted ⟨some d, .call { callee := .builtin bi, args := #[.const x, .tmp y], argTypes := tys }, ty, pos, aft, gd⟩ (yielded ops a.tmps) = true := by rfl) : AnyK P ops K Kp (fuel + 1) listed a w :=
  AnyK.take m (.inl ⟨hw, fun w' _ => by
    have := hv w'
    simp [execOp, resolve, invoke, hy, this]⟩) hS h
theorem AnyK.conv {R : World → Prop} {T : Nat → Bool} {s t : TypeId} {z : Operand} (m : May ops Kp listed R T i ⟨some d, .convert s t z, ty, pos, aft, gd⟩)
    (hz : a.eval z = u) (hv : ∀ w, (convert s t u).run P w = .ok v w) (hS : R w)
    (h : AnyK P ops K Kp fuel (listed.setIfInBounds i true) (a.put (some d) v) w) (hw : Region.wanted ⟨some d, .convert s t z, ty, pos, aft, gd⟩ (yielded ops a.tmps) = true := by rfl) : AnyK P ops K Kp (fuel + 1) listed a w :=
  AnyK.take m (.inl ⟨hw, fun w' _ => by simp [execOp, hz, hv w']⟩) hS h
theorem ListK.bi2 (hi : ops[i]? = some ⟨some d, .call { callee := .builtin bi, args := #[.const x, .tmp y], argTypes := tys }, ty, pos, aft, gd⟩) (hy : a.eval (.tmp y) = u) (hv : (builtin bi tys ty #[true, false] #[x, u]).run P w = .ok (.value v) w)
    (h : ListK P ops K k (i + 1) (a.put (some d) v) w) (hw : Region.wanted ⟨some d, .call { callee := .builtin bi, args := #[.const x, .tmp y], argTypes := tys }, ty, pos, aft, gd⟩ (yielded ops a.tmps) = true := by rfl) : ListK P ops K (k + 1) i a w :=
  ListK.valW hi hw (by simp [execOp, resolve, invoke, hy, hv]) h
end
/-- The number that a sale had. -/
def turn (n k m : Nat) : Nat := if m < n then (m + k) % n else m
/-! The fewest sales. -/
section
variable {H : Type} {enc : TypeId × Value → H} {W : World} {r : Reach} {b0 : Nat}
theorem at_some {α : Type} {xs : List α} {n i : Nat} (h : xs.length = n) (hi : i < n) : ∃ z, xs[i]? = some z := ⟨_, List.getElem?_eq_getElem (by omega)⟩
end
section
variable {P : Program} {ops : Array Oper} {K : Act → World → Prop} {Kp : Nat → World → World → Prop} {fuel k : Nat} {listed : Array Bool} {a : Act} {w w' : World} {i d : Nat} {ty : TypeId} {pos : String} {aft : Array Edge} {gd : Option (Nat × Bool)} {u u' v v2 v' : Value} {t : TypeId} {x y : Operand}
theorem AnyK.sliceL {R : World → Prop} {T : Nat → Bool} (m : May ops Kp listed R T i ⟨some d, .slice t x (some y) none none, ty, pos, aft, gd⟩)
    (hx : a.eval x = u) (hy : a.eval y = u') (hv : ∀ w, (Instr.sliceAt t u (some u') none none).run P w = .ok v w) (hS : R w)
    (h : AnyK P ops K Kp fuel (listed.setIfInBounds i true) (a.put (some d) v) w) (hw : Region.wanted ⟨some d, .slice t x (some y) none none, ty, pos, aft, gd⟩ (yielded ops a.tmps) = true := by rfl) : AnyK P ops K Kp (fuel + 1) listed a w :=
  AnyK.take m (.inl ⟨hw, fun w' _ => by simp [execOp, hx, hy, hv w']⟩) hS h
theorem AnyK.sliceH {R : World → Prop} {T : Nat → Bool} (m : May ops Kp listed R T i ⟨some d, .slice t x none (some y) none, ty, pos, aft, gd⟩)
    (hx : a.eval x = u) (hy : a.eval y = u') (hv : ∀ w, (Instr.sliceAt t u none (some u') none).run P w = .ok v w) (hS : R w)
    (h : AnyK P ops K Kp fuel (listed.setIfInBounds i true) (a.put (some d) v) w) (hw : Region.wanted ⟨some d, .slice t x none (some y) none, ty, pos, aft, gd⟩ (yielded ops a.tmps) = true := by rfl) : AnyK P ops K Kp (fuel + 1) listed a w :=
  AnyK.take m (.inl ⟨hw, fun w' _ => by simp [execOp, hx, hy, hv w']⟩) hS h
end
section
variable {P : Program} {ops : Array Oper} {K : Act → World → Prop} {Kp : Nat → World → World → Prop} {fuel : Nat} {listed : Array Bool} {a : Act} {w : World} {i d : Nat} {ty : TypeId} {pos : String} {aft : Array Edge} {gd : Option (Nat × Bool)} {u u2 v : Value} {y z : Nat} {tys : Array TypeId} {bi : Builtin}
theorem AnyK.bi2t {R : World → Prop} {T : Nat → Bool} (m : May ops Kp listed R T i ⟨some d, .call { callee := .builtin bi, args := #[.tmp y, .tmp z], argTypes := tys }, ty, pos, aft, gd⟩)
    (hy : a.eval (.tmp y) = u) (hz : a.eval (.tmp z) = u2) (hv : ∀ w, (builtin bi tys ty #[false, false] #[u, u2]).run P w = .ok (.value v) w) (hS : R w)
    (h : AnyK P ops K Kp fuel (listed.setIfInBounds i true) (a.put (some d) v) w) (hw : Region.wanted ⟨some d, .call { callee := .builtin bi, args := #[.tmp y, .tmp z], argTypes := tys }, ty, pos, aft, gd⟩ (yielded ops a.tmps) = true := by rfl) : AnyK P ops K Kp (fuel + 1) listed a w :=
  AnyK.take m (.inl ⟨hw, fun w' _ => by
    have := hv w'
    simp [execOp, resolve, invoke, hy, hz, this]⟩) hS h
end
/-- How a list of lists reads. -/
theorem LL.at {W0 W : World} {v : Value} {xs : List (List Int)} (h : LL W0 v xs W) {i : Nat} {x : List Int} (hx : xs[i]? = some x) : ∃ g c A ca, v = .slice (some ⟨g, 0, none⟩) xs.length c ∧ W.cell? ⟨g, i, none⟩ = some (.slice A x.length ca) ∧ IntsAt W W.heap.size A x := by
  obtain ⟨hlow, vs, h1, h2, h3⟩ := h
  have hi : i < xs.length := (List.getElem?_eq_some_iff.1 hx).1
  obtain ⟨g, c, rfl, _, _⟩ := h2.form (by omega)
  have hvi : vs[i]? = some (vs[i]'(by omega)) := List.getElem?_eq_getElem _
  have hr := h3 i _ x hvi hx
  obtain ⟨A, ca, e, _, hA⟩ := (OL.mk hlow hr : OL W0 _ x W).ints
  refine ⟨g, c, A, ca, rfl, ?_, hA⟩
  have := h2.cells (g := g) rfl i _ hvi
  rw [e] at this
  simp only [Addr.add] at this
  split at this
  · rename_i h0
    subst h0
    simpa using this
  · simpa using this
theorem RI.st (xs : List Int) : StableW (fun v w => RI w v xs) := fun _ _ _ h hb => h.below hb
set_option maxRecDepth 100000
end Go.Proofs.YtmdlmmfbcnkanaaR
namespace Go.Proofs.YtmdlmmfbcnkanaaR
open Go.RowKit Go.Shelf
attribute [local go_sem] Oper.semAt_some
theorem ld3 {w : World} {p : Addr} {v : Value} (h : w.cell? p = some v) : (Instr.loadAt 3 (.pointer (some p))).run Try.prog w = .ok v w := by
  go_simp
theorem st3 {w : World} {p : Addr} {v : Value} {u : Int} (h : w.cell? p = some v) (hf : w.frozen? p = false) : (Instr.storeAt 3 (.pointer (some p)) (.int .i64 u)).run Try.prog w = .ok () (w.setCell p (.int .i64 u)) := by
  go_simp
theorem Try.info3 : (Try.prog.info? 3).map (fun i => (i.zero, i.size, i.bytes)) = some (some (.int .i64 0), 1, 8) := by kernel_rfl
theorem leq3 {x y : Operand} {m n : Int} (w : World) : (do eqGuard .leq 3 x y (.int .i64 m) (.int .i64 n); binOp .leq 3 (.int .i64 m) (.int .i64 n) : Sem Value).run Try.prog w = .ok (.bool (decide (m ≤ n))) w := by
  go_simp
theorem geq3 {x y : Operand} {m n : Int} (w : World) : (do eqGuard .geq 3 x y (.int .i64 m) (.int .i64 n); binOp .geq 3 (.int .i64 m) (.int .i64 n) : Sem Value).run Try.prog w = .ok (.bool (decide (n ≤ m))) w := by
  go_simp
theorem sub3 {x y : Operand} {m n : Int} (h0 : -100000 ≤ m - n) (h1 : m - n ≤ 10000000) (w : World) : (do eqGuard .sub 3 x y (.int .i64 m) (.int .i64 n); binOp .sub 3 (.int .i64 m) (.int .i64 n) : Sem Value).run Try.prog w = .ok (.int .i64 (m - n)) w := by
  have := IntWalk.i64_in (m - n) (by omega)
  go_simp
theorem lss3 {x y : Operand} {m n : Int} (w : World) : (do eqGuard .lss 3 x y (.int .i64 m) (.int .i64 n); binOp .lss 3 (.int .i64 m) (.int .i64 n) : Sem Value).run Try.prog w = .ok (.bool (decide (m < n))) w := by
  go_simp
theorem ex0 (u v : Value) (w : World) : (Instr.extract (.tuple #[u, v]) 0).run Try.prog w = .ok u w := by
  go_simp
theorem ex1 (u v : Value) (w : World) : (Instr.extract (.tuple #[u, v]) 1).run Try.prog w = .ok v w := by
  go_simp
theorem neq27 {x y : Operand} {m n : Int} (w : World) : (do eqGuard .neq 27 x y (.int .i64 m) (.int .i64 n); binOp .neq 27 (.int .i64 m) (.int .i64 n) : Sem Value).run Try.prog w = .ok (.bool (m != n)) w := by
  go_simp
theorem gtr3 {x y : Operand} {m n : Int} (w : World) : (do eqGuard .gtr 3 x y (.int .i64 m) (.int .i64 n); binOp .gtr 3 (.int .i64 m) (.int .i64 n) : Sem Value).run Try.prog w = .ok (.bool (decide (n < m))) w := by
  go_simp
theorem add3 {x y : Operand} {m n : Int} (h0 : -100000 ≤ m + n) (h1 : m + n ≤ 10000000) (w : World) : (do eqGuard .add 3 x y (.int .i64 m) (.int .i64 n); binOp .add 3 (.int .i64 m) (.int .i64 n) : Sem Value).run Try.prog w = .ok (.int .i64 (m + n)) w := by
  have := IntWalk.i64_in (m + n) (by omega)
  go_simp

theorem res1 {fn : Func} {i : Nat} {W : World} {a : Act} {x : Value} (h : fn.results = #[.tmp i]) (hi : a.eval (.tmp i) = x) : (results fn a.tmps).run Try.prog W = .ok x W := by
  rw [results_tmp h]
  exact congrArg (fun v => Result.ok v W) hi

section
variable {ops : Array Oper} {K : Act → World → Prop} {k i d : Nat} {a : Act} {w : World} {ty : TypeId} {pos : String} {aft : Array Edge}
theorem ListK.len {x : Operand} {tys : Array TypeId} {u v : Value} (hi : ops[i]? = some ⟨some d, .call { callee := .builtin .len, args := #[x], argTypes := tys }, ty, pos, aft, none⟩) (hx : a.eval x = u) (hv : (builtin .len tys ty #[false] #[u]).run Try.prog w = .ok (.value v) w) (hc : (match x with | .const _ => true | _ => false) = false)
    (h : ListK Try.prog ops K k (i + 1) (a.put (some d) v) w) : ListK Try.prog ops K (k + 1) i a w :=
  ListK.val hi rfl (by cases x <;> simp_all [execOp, resolve, invoke]) h
theorem ListK.un {b : UnOp} {t : TypeId} {x : Operand} {u v : Value} {gd : Option (Nat × Bool)} (hi : ops[i]? = some ⟨some d, .unOp b t x, ty, pos, aft, gd⟩) (hx : a.eval x = u) (hv : (Op.unary b u).run Try.prog w = .ok v w)
    (h : ListK Try.prog ops K k (i + 1) (a.put (some d) v) w) (hw : Region.wanted ⟨some d, .unOp b t x, ty, pos, aft, gd⟩ (yielded ops a.tmps) = true := by rfl) : ListK Try.prog ops K (k + 1) i a w :=
  ListK.valW hi hw (by simp [execOp, hx, hv]) h
end
theorem not4 (b : Bool) (w : World) : (Op.unary .not (.bool b)).run Try.prog w = .ok (.bool !b) w := by
  go_simp
theorem neq3 {x y : Operand} {m n : Int} (w : World) : (do eqGuard .neq 3 x y (.int .i64 m) (.int .i64 n); binOp .neq 3 (.int .i64 m) (.int .i64 n) : Sem Value).run Try.prog w = .ok (.bool (m != n)) w := by
  go_simp

theorem res2 {fn : Func} {i j : Nat} {W : World} {a : Act} {x y : Value} (h : fn.results = #[.tmp i, .tmp j]) (hi : a.eval (.tmp i) = x) (hj : a.eval (.tmp j) = y) :
    (results fn a.tmps).run Try.prog W = .ok (.tuple #[x, y]) W := by
  have e1 : a.tmps[i]?.getD undef = x := by simpa [Act.eval] using hi
  have e2 : a.tmps[j]?.getD undef = y := by simpa [Act.eval] using hj
  simp [results, h, e1, e2]

theorem neqF {x y : Operand} {m n : Int} (h : m = n) (w : World) : (do eqGuard .neq 3 x y (.int .i64 m) (.int .i64 n); binOp .neq 3 (.int .i64 m) (.int .i64 n) : Sem Value).run Try.prog w = .ok (.bool false) w := by
  rw [neq3 w]
  simp [h]
theorem neq27T {x y : Operand} {m n : Int} (h : m ≠ n) (w : World) : (do eqGuard .neq 27 x y (.int .i64 m) (.int .i64 n); binOp .neq 27 (.int .i64 m) (.int .i64 n) : Sem Value).run Try.prog w = .ok (.bool true) w := by
  rw [neq27 w]
  simp [h]
theorem neq27F {x y : Operand} {m n : Int} (h : m = n) (w : World) : (do eqGuard .neq 27 x y (.int .i64 m) (.int .i64 n); binOp .neq 27 (.int .i64 m) (.int .i64 n) : Sem Value).run Try.prog w = .ok (.bool false) w := by
  rw [neq27 w]
  simp [h]

theorem ListK.lenW {ops : Array Oper} {K : Act → World → Prop} {k i d : Nat} {a : Act} {w : World} {ty : TypeId} {pos : String} {aft : Array Edge} {gd : Option (Nat × Bool)} {x : Operand} {tys : Array TypeId} {u v : Value} (hi : ops[i]? = some ⟨some d, .call { callee := .builtin .len, args := #[x], argTypes := tys }, ty, pos, aft, gd⟩)
    (hx : a.eval x = u) (hv : (builtin .len tys ty #[false] #[u]).run Try.prog w = .ok (.value v) w) (hc : (match x with | .const _ => true | _ => false) = false)
    (h : ListK Try.prog ops K k (i + 1) (a.put (some d) v) w) (hw : Region.wanted ⟨some d, .call { callee := .builtin .len, args := #[x], argTypes := tys }, ty, pos, aft, gd⟩ (yielded ops a.tmps) = true := by rfl) : ListK Try.prog ops K (k + 1) i a w :=
  ListK.valW hi hw (by cases x <;> simp_all [execOp, resolve, invoke]) h
theorem p3 (d x : Int) (w : World) : (part 3 #[.int .i64 d, .int .i64 x] 1).run Try.prog w = .ok (.int .i64 x) w := by kernel_rfl
theorem ld93 {w : World} {p : Addr} {v : Value} (h : w.cell? p = some v) : (Instr.loadAt 93 (.pointer (some p))).run Try.prog w = .ok v w := by
  go_simp
theorem eql27T {x y : Operand} {m n : Int} (h : m = n) (w : World) : (do eqGuard .eql 27 x y (.int .i64 m) (.int .i64 n); binOp .eql 27 (.int .i64 m) (.int .i64 n) : Sem Value).run Try.prog w = .ok (.bool true) w := by
  subst h
  go_simp
section
variable {P : Program} {ops : Array Oper} {Q : Exit → Act → World → Prop} {a : Act} {w : World}
theorem region_S {F : Fence} {n id : Nat} (L : Words) (N : Nat) (hF : WideF F P) (hnd : Region.noDefer ops = true) (hm : P.follows .mixedOrders = true) (hds : dstsB ops N = true) (hfw : forwardB ops = true) (hst : AllS L) (hsz : a.tmps.size = N)
    (k : Nat) (hk : ops.size = k) (hop : OpsOk P ops L N a w.drew k)
    (hK : ∀ (a' : Act) (w' : World), a'.tmps.size = N → a'.defers = a.defers → Below w.heap.size w w' → (∀ e, ndstB ops e = true → a'.eval (.tmp e) = a.eval (.tmp e)) → (∀ (j d : Nat), (ops[j]?).bind (·.dst) = some d → L.at_ j (a'.eval (.tmp d)) w') → Q .normal a' w') :
    (Code.region id ops true).wpIn F n P Q a w := by
  refine region_K (fun _ _ _ => True) hF hnd hm ?_
  refine AnyG.inv (SInv ops L N a w.drew) ?_ ?_ _ _ _ _ ?_ ?_
  · intro listed a' w' i hS hi
    exact SInv.step hds hst.at_ (fun i hi => hop.at_ i (by omega)) (fun ⟨_, _, h⟩ => h.elim) hS hi
  · intro listed a' w' hS hr
    have hall := all_listed hfw hS.ls hr
    have hb : Below w.heap.size w w' := (Below.refl w.heap.size w).drew.trans hS.low
    refine hK a' w' hS.sz hS.df hb (fun e he => hS.rest e (ndst_spec he)) (fun j d hj => ?_)
    rw [Option.bind_eq_some_iff] at hj
    obtain ⟨oj, h1, h2⟩ := hj
    exact hS.slots j oj d h1 h2 (hall j (Array.getElem?_eq_some_iff.1 h1).1)
  · refine ⟨hsz, rfl, Below.refl _ _, by simp, fun _ _ => rfl, fun j oj dj _ _ hl => ?_⟩
    simp [Array.getElem?_replicate] at hl
  · have : ∀ (m k : Nat), leftOf (Array.replicate m false) k ≤ k := by
      intro m k
      induction k with
      | zero => exact Nat.le_refl _
      | succ k ih =>
        unfold leftOf
        split <;> omega
    exact this _ _
end
theorem fa24_0 {b o : Nat} (w : World) : (Instr.fieldAt 24 (.pointer (some ⟨b, o, none⟩)) 0).run Try.prog w = .ok (.pointer (some ⟨b, o, none⟩)) w := by
  go_simp
theorem fa24_1 {b o : Nat} (w : World) : (Instr.fieldAt 24 (.pointer (some ⟨b, o, none⟩)) 1).run Try.prog w = .ok (.pointer (some ⟨b, o + 1, none⟩)) w := by
  go_simp
theorem fa24_2 {b o : Nat} (w : World) : (Instr.fieldAt 24 (.pointer (some ⟨b, o, none⟩)) 2).run Try.prog w = .ok (.pointer (some ⟨b, o + 2, none⟩)) w := by
  go_simp
theorem ld22 {w : World} {p : Addr} {v : Value} (h : w.cell? p = some v) : (Instr.loadAt 22 (.pointer (some p))).run Try.prog w = .ok v w := by
  go_simp
theorem ld24 {w : World} {b : Nat} {u v x : Value} (h : w.cell? ⟨b, 0, none⟩ = some u ∧ w.cell? ⟨b, 1, none⟩ = some v ∧ w.cell? ⟨b, 2, none⟩ = some x) : (Instr.loadAt 24 (.pointer (some ⟨b, 0, none⟩))).run Try.prog w = .ok (.agg #[u, v, x]) w := by
  obtain ⟨h0, h1, h2⟩ := h
  go_simp
theorem ln22 (A : Option Addr) (n c : Nat) (ty : TypeId) (w : World) : (builtin .len #[22] ty #[false] #[.slice A n c]).run Try.prog w = .ok (.value (.int .i64 n)) w := by
  go_simp
theorem bx24 (w : World) (o t : Int) (A : Option Addr) (n c : Nat) : (Instr.box 24 (.agg #[.int .i64 o, .int .i64 t, .slice A n c])).run Try.prog w = .ok (.pointer (some ⟨w.heap.size, 0, none⟩)) (w.alloc (.cells #[.int .i64 o, .int .i64 t, .slice A n c] 24)) := by
  go_simp
/-- A call that gives a value, wherever a world stands that is at most longer. -/
abbrev CV (w : World) (f : FuncId) (args : Array Value) (v : Value) : Prop := ∀ W1, Below w.heap.size w W1 → Calls Try.prog f args W1 fun e w' => ∃ u, e = .returned u ∧ u = v ∧ Below W1.heap.size W1 w'
theorem CV.drew {w : World} {f : FuncId} {args : Array Value} {v : Value} (h : CV w f args v) : CV w.drew f args v := fun W1 hb => h W1 (((Below.refl w.heap.size w).drew).trans hb)
theorem max3 (m n : Int) (ty : TypeId) (w : World) : (builtin .max #[3, 3] ty #[false, false] #[.int .i64 m, .int .i64 n]).run Try.prog w = .ok (.value (.int .i64 (max m n))) w := by
  go_simp
  split <;> omega
theorem eql3T {x y : Operand} {m n : Int} (h : m = n) (w : World) : (do eqGuard .eql 3 x y (.int .i64 m) (.int .i64 n); binOp .eql 3 (.int .i64 m) (.int .i64 n) : Sem Value).run Try.prog w = .ok (.bool true) w := by
  subst h
  go_simp
theorem eql3F {x y : Operand} {m n : Int} (h : m ≠ n) (w : World) : (do eqGuard .eql 3 x y (.int .i64 m) (.int .i64 n); binOp .eql 3 (.int .i64 m) (.int .i64 n) : Sem Value).run Try.prog w = .ok (.bool false) w := by
  go_simp
/-! The table of last days. -/
/-! What there is stays the same, and nobody has less than nothing. -/
/-! Sooner. -/
/-! Wider. -/
/-! Later. -/
set_option maxRecDepth 100000 in
theorem cvu8 {k : Nat} (hk : k < 256) (w : World) : (convert 5 3 (.int .u8 k)).run Try.prog w = .ok (.int .i64 k) w := by
  have h1 : IntKind.i64.wrap (k : Int) = k := by
    rw [IntKind.wrap_i64]
    omega
  go_simp
theorem rem3r {x y : Operand} {m n r : Int} (h0 : 0 ≤ m) (h1 : 0 < n) (hr : m % n = r) (w : World) : (do eqGuard .rem 3 x y (.int .i64 m) (.int .i64 n); binOp .rem 3 (.int .i64 m) (.int .i64 n) : Sem Value).run Try.prog w = .ok (.int .i64 r) w := by
  have h2 : n ≠ 0 := by omega
  have h3 : m.tmod n = m % n := Int.tmod_eq_emod_of_nonneg h0
  have h4 : IntKind.i64.wrap (m % n) = m % n ∨ True := .inr trivial
  subst hr
  rw [← h3]
  go_simp
theorem nqT {x y : Operand} {m n : Int} (h : m ≠ n) (w : World) : (do eqGuard .neq 27 x y (.int .i64 m) (.int .i64 n); binOp .neq 27 (.int .i64 m) (.int .i64 n) : Sem Value).run Try.prog w = .ok (.bool true) w := by
  rw [neq27]
  simp [h]
theorem nqF {x y : Operand} {m n : Int} (h : m = n) (w : World) : (do eqGuard .neq 27 x y (.int .i64 m) (.int .i64 n); binOp .neq 27 (.int .i64 m) (.int .i64 n) : Sem Value).run Try.prog w = .ok (.bool false) w := by
  rw [neq27]
  simp [h]
theorem eq3d {x y : Operand} (m n : Int) (w : World) : (do eqGuard .eql 3 x y (.int .i64 m) (.int .i64 n); binOp .eql 3 (.int .i64 m) (.int .i64 n) : Sem Value).run Try.prog w = .ok (.bool (decide (m = n))) w := by
  by_cases e : m = n
  · rw [eql3T e]
    simp [e]
  · rw [eql3F e]
    simp [e]
/-! Truths sale by sale. -/
section
variable {ops : Array Oper} {K : Act → World → Prop} {Kp : Nat → World → World → Prop} {fuel i d : Nat} {listed : Array Bool} {a : Act} {w w' : World} {ty : TypeId} {pos : String} {aft : Array Edge}
theorem StepK.mkS {t : TypeId} {x y : Operand} {u u' v : Value} (hi : ops[i]? = some ⟨some d, .makeSlice t x y, ty, pos, aft, none⟩) (hx : a.eval x = u) (hy : a.eval y = u') (hv : (Instr.makeSlice t u u').run Try.prog w = .ok v w') (hk : Kp i w w')
    (h : AnyK Try.prog ops K Kp fuel (listed.setIfInBounds i true) (a.put (some d) v) w') : StepK Try.prog ops K Kp fuel listed a w i := by
  unfold StepK opG
  simp only [hi]
  rw [if_pos (show Region.wanted _ _ = true from rfl)]
  simp only [Oper.wp, execOp, hx, hy]; simp [hv, Oper.upon]; exact ⟨hk, h⟩
end
theorem quo3r {x y : Operand} {m n r : Int} (h0 : 0 ≤ m) (h1 : 0 < n) (hm : m ≤ 1000000) (hr : m / n = r) (w : World) : (do eqGuard .quo 3 x y (.int .i64 m) (.int .i64 n); binOp .quo 3 (.int .i64 m) (.int .i64 n) : Sem Value).run Try.prog w = .ok (.int .i64 r) w := by
  have h2 : n ≠ 0 := by omega
  have h3 : m.tdiv n = m / n := Int.tdiv_eq_ediv_of_nonneg h0
  have h5 : 0 ≤ m / n := Int.ediv_nonneg h0 (by omega)
  have h6 : m / n ≤ m := Int.ediv_le_self _ h0
  have h4 := IntWalk.i64_in (m / n) (by omega)
  subst hr
  rw [← h3] at h4 ⊢
  go_simp
  rw [h3] at h4
  exact h4
/-! The fewest sales. -/
section
variable {H : Type} {enc : TypeId × Value → H} {W : World} {r : Reach} {b0 : Nat}
theorem c3 : Try.prog.cellsOf 3 = 1 := by kernel_rfl
theorem get_int {n : Nat} {cs : List Value} {t i : Nat} {y : Option (DataW H × List MemPlace)} (ht : Try.prog.underlying t = some (.int .i64)) (h : DataW.trod enc Try.prog W 0 (fun _ => true) true n t ((cs.drop i).take 1) = y) (hy : ∃ z, y = some z) : ∃ x : Int, cs[i]? = some (.int .i64 x) := by
  obtain ⟨z, rfl⟩ := hy
  obtain ⟨x, hx, _, _⟩ := DataW.trod_int ht h
  refine ⟨x, ?_⟩
  have h2 : ((cs.drop i).take 1)[0]? = some (.int .i64 x) := by rw [hx]; rfl
  rw [List.getElem?_take, if_pos (by omega), List.getElem?_drop] at h2
  simpa using h2
end
/-- A READING IS CARRIED OVER WHATEVER LIES BEHIND. -/
theorem laidOut : laidOutB Try.prog = true := by kernel_rfl
theorem r24 : Try.prog.readableRec 24 = true := by kernel_rfl
section
variable {P : Program} {ops : Array Oper} {K : Act → World → Prop} {Kp : Nat → World → World → Prop} {fuel k : Nat} {listed : Array Bool} {a : Act} {w w' : World} {i d : Nat} {ty : TypeId} {pos : String} {aft : Array Edge} {gd : Option (Nat × Bool)} {u u' v v2 v' : Value} {t : TypeId} {x y : Operand}
theorem StepK.app22r {ops : Array Oper} {s z : Operand} (hi : ops[i]? = some ⟨some d, .call { callee := .builtin .append, args := #[s, z], argTypes := #[22, 22] }, ty, pos, aft, none⟩) (hs : a.eval s = v) (hx : a.eval z = v2)
    (hr : (Builtin.append_ #[22, 22] ty #[v, v2]).run Try.prog w = .ok v' w') (hk : Kp i w w') (h : AnyK Try.prog ops K Kp fuel (listed.setIfInBounds i true) (a.put (some d) v') w') : StepK Try.prog ops K Kp fuel listed a w i := by
  unfold StepK opG
  simp only [hi]
  rw [if_pos (show Region.wanted _ _ = true from rfl)]
  simp [Oper.wp, execOp, resolve, invoke, builtin, hs, hx, hr, Oper.upon]
  exact ⟨hk, h⟩
end
theorem nq3F {x y : Operand} {m n : Int} (h : m = n) (w : World) : (do eqGuard .neq 3 x y (.int .i64 m) (.int .i64 n); binOp .neq 3 (.int .i64 m) (.int .i64 n) : Sem Value).run Try.prog w = .ok (.bool false) w := by
  subst h
  go_simp
theorem mul3 {x y : Operand} {m n : Int} (h0 : -100000 ≤ m * n) (h1 : m * n ≤ 10000000) (w : World) : (do eqGuard .mul 3 x y (.int .i64 m) (.int .i64 n); binOp .mul 3 (.int .i64 m) (.int .i64 n) : Sem Value).run Try.prog w = .ok (.int .i64 (m * n)) w := by
  have := IntWalk.i64_in (m * n) (by omega)
  go_simp
theorem gtrT3 {x y : Operand} {m n : Int} (h : n < m) (w : World) : (do eqGuard .gtr 3 x y (.int .i64 m) (.int .i64 n); binOp .gtr 3 (.int .i64 m) (.int .i64 n) : Sem Value).run Try.prog w = .ok (.bool true) w := by
  go_simp
theorem gtrF3 {x y : Operand} {m n : Int} (h : ¬ n < m) (w : World) : (do eqGuard .gtr 3 x y (.int .i64 m) (.int .i64 n); binOp .gtr 3 (.int .i64 m) (.int .i64 n) : Sem Value).run Try.prog w = .ok (.bool false) w := by
  go_simp
theorem lssT3 {x y : Operand} {m n : Int} (h : m < n) (w : World) : (do eqGuard .lss 3 x y (.int .i64 m) (.int .i64 n); binOp .lss 3 (.int .i64 m) (.int .i64 n) : Sem Value).run Try.prog w = .ok (.bool true) w := by
  go_simp
theorem lssF3 {x y : Operand} {m n : Int} (h : ¬ m < n) (w : World) : (do eqGuard .lss 3 x y (.int .i64 m) (.int .i64 n); binOp .lss 3 (.int .i64 m) (.int .i64 n) : Sem Value).run Try.prog w = .ok (.bool false) w := by
  go_simp
theorem neqT3 {x y : Operand} {m n : Int} (h : m ≠ n) (w : World) : (do eqGuard .neq 3 x y (.int .i64 m) (.int .i64 n); binOp .neq 3 (.int .i64 m) (.int .i64 n) : Sem Value).run Try.prog w = .ok (.bool true) w := by
  rw [neq3]
  simp [h]
set_option maxRecDepth 100000
end Go.Proofs.YtmdlmmfbcnkanaaR
namespace Go.Proofs.YtmdlmmfbcnkanaaR

/-- A digit's number. -/
def dig (b : UInt8) : Nat := (b - 48).toNat
def num2 (a b : UInt8) : Nat := 10 * dig a + dig b
def isDig (b : UInt8) : Bool := decide (48 ≤ b.toNat ∧ b.toNat ≤ 57)
def chk5 (a b c d e : UInt8) : Nat := (2 * a.toNat + 3 * b.toNat + 4 * c.toNat + 5 * d.toNat + 6 * e.toNat) % 97
def headOk (many width step : Int) : Bool := inR many 1 40 && inR width 2 8 && inR step 1 9
/-- Is a record of seven bytes good? -/
def good7 (a b c d e f g : UInt8) : Bool :=
  (a == 72 || a == 82 || a == 80) && (isDig b && isDig c && isDig d && isDig e && isDig f && isDig g) && (num2 f g == chk5 a b c d e) && (a != 72 || headOk (num2 b c) (dig d) (dig e))
def isGood : List UInt8 → Bool
  | [a, b, c, d, e, f, g] => good7 a b c d e f g
  | _ => false
/-- A byte of two digits. -/
def hi2 (n : Nat) : UInt8 := UInt8.ofNat (48 + n / 10)
def lo2 (n : Nat) : UInt8 := UInt8.ofNat (48 + n % 10)
def made (k : UInt8) (a b : Nat) : List UInt8 :=
  [k, hi2 a, lo2 a, hi2 b, lo2 b, hi2 (chk5 k (hi2 a) (lo2 a) (hi2 b) (lo2 b)), lo2 (chk5 k (hi2 a) (lo2 a) (hi2 b) (lo2 b))]
/-- Records as bytes. -/
def linesL : List (List UInt8) → List UInt8
  | [] => []
  | r :: l => r ++ [10] ++ linesL l
/-- The pieces of bytes. -/
def pieces : List UInt8 → List UInt8 → List (List UInt8)
  | _, [] => []
  | acc, b :: l => if b = 10 then acc :: pieces [] l else pieces (acc ++ [b]) l
def goods (b : List UInt8) : List (List UInt8) := (pieces [] b).filter isGood

/-- A series. -/
structure Ser where
  width : Int
  step : Int
  rd : List Int
def nearB (a b step : Int) : Bool := inR (a - b) (-step) step
def nearL (step : Int) : List Int → Bool
  | a :: b :: l => nearB b a step && nearL step (b :: l)
  | _ => true
def faultS (s : Ser) : Int :=
  if 40 < s.rd.length then 3 else if headOk s.rd.length s.width s.step && s.rd.all (fun n => inR n 0 99) && nearL s.step s.rd then 0 else 1

/-- The name of a record: its letter, and its number (of a head: 0). -/
def nameOf : List UInt8 → UInt8 × Nat
  | a :: b :: c :: _ => if a = 72 then (72, 0) else (a, num2 b c)
  | _ => (0, 0)
/-- What a record tells. -/
def valOf : List UInt8 → Nat
  | _ :: _ :: _ :: d :: e :: _ => num2 d e
  | _ => 0
def find (m : List (List UInt8)) (nm : UInt8 × Nat) : Option (List UInt8) := m.find? (fun r => nameOf r == nm)
/-- Good pieces are taken up, one behind the other; none: two contradict each other. -/
def takeUp : List (List UInt8) → List (List UInt8) → Option (List (List UInt8))
  | m, [] => some m
  | m, g :: l => match find m (nameOf g) with
    | some old => if old = g then takeUp m l else none
    | none => takeUp (m ++ [g]) l
structure Head where
  many : Nat
  width : Nat
  step : Nat
def headOf : List UInt8 → Head
  | _ :: b :: c :: d :: e :: _ => ⟨num2 b c, dig d, dig e⟩
  | _ => ⟨0, 0, 0⟩
def Head.blocks (h : Head) : Nat := (h.many + h.width - 1) / h.width
def outOf (h : Head) (r : List UInt8) : Bool := ((nameOf r).1 == 82 && decide (h.many ≤ (nameOf r).2)) || ((nameOf r).1 == 80 && decide (h.blocks ≤ (nameOf r).2))
/-- What good pieces are, read: the error; and the records. -/
def readE (gs : List (List UInt8)) : Int := match takeUp [] gs with
  | none => 6
  | some m => match find m (72, 0) with
    | none => 7
    | some h => if m.any (outOf (headOf h)) then 6 else 0
def told (m : List (List UInt8)) (k : UInt8) (n : Nat) : Option Nat := (find m (k, n)).map valOf
def Head.closes (h : Head) (n : Nat) : Bool := n + 1 == h.many || n % h.width == h.width - 1
/-- The step from the place ahead of at (the reading there r, the sum s) to a reading n at the place at: the new sum, if it may be. -/
def after (h : Head) (m : List (List UInt8)) (at_ : Nat) (s n : Nat) : Option Nat :=
  let s' := if at_ % h.width = 0 then n else (s + n) % 100
  if (match told m 82 at_ with | some x => x == n | none => true) && (!h.closes at_ || (match told m 80 (at_ / h.width) with | some x => x == s' | none => true)) then some s' else none
def lowR (h : Head) (at_ : Nat) (r : Nat) : Nat := if at_ = 0 then 0 else r - h.step
def highR (h : Head) (at_ : Nat) (r : Nat) : Nat := if at_ = 0 then 99 else min 99 (r + h.step)
def readsR (h : Head) (at_ r : Nat) : List Nat := (List.range (highR h at_ r + 1 - lowR h at_ r)).map (· + lowR h at_ r)
/-- Does some series go on from the place ahead of at to the end, f readings on? -/
def goB (h : Head) (m : List (List UInt8)) : Nat → Nat → Nat → Nat → Bool
  | 0, _, _, _ => true
  | f + 1, at_, r, s => (readsR h at_ r).any fun n => match after h m at_ s n with
    | some s' => goB h m f (at_ + 1) n s'
    | none => false
/-- The places that can be come to, ahead of at. -/
def reach (h : Head) (m : List (List UInt8)) : Nat → List (Nat × Nat)
  | 0 => [(0, 0)]
  | k + 1 => (reach h m k).flatMap fun p => (readsR h k p.1).filterMap fun n => (after h m k p.2 n).map fun s' => (n, s')
def goesAt (h : Head) (m : List (List UInt8)) (k : Nat) : List Nat := ((reach h m (k + 1)).filter fun p => goB h m (h.many - (k + 1)) (k + 1) p.1 p.2).map (·.1)
def loAt (h : Head) (m : List (List UInt8)) (k : Nat) : Int := (goesAt h m k).foldl (fun (x : Int) (n : Nat) => min x (n : Int)) 100
def hiAt (h : Head) (m : List (List UInt8)) (k : Nat) : Int := (goesAt h m k).foldl (fun (x : Int) (n : Nat) => max x (n : Int)) (-1)
end Go.Proofs.YtmdlmmfbcnkanaaR
namespace Go.Proofs.YtmdlmmfbcnkanaaR
open Go.RowKit Go.Shelf
theorem Try.mixed : Try.prog.follows .mixedOrders = true := by kernel_rfl
theorem sub3n {x y : Operand} {j k : Nat} (h : k ≤ j) (h1 : j < 1000000) (w : World) : (do eqGuard .sub 3 x y (.int .i64 (j : Int)) (.int .i64 (k : Int)); binOp .sub 3 (.int .i64 (j : Int)) (.int .i64 (k : Int)) : Sem Value).run Try.prog w = .ok (.int .i64 ((j - k : Nat) : Int)) w := by
  rw [show ((j - k : Nat) : Int) = (j : Int) - k by omega]
  exact sub3 (by omega) (by omega) w
theorem fa29_0 {b o : Nat} (w : World) : (Instr.fieldAt 29 (.pointer (some ⟨b, o, none⟩)) 0).run Try.prog w = .ok (.pointer (some ⟨b, o, none⟩)) w := by go_simp
theorem fa29_1 {b o : Nat} (w : World) : (Instr.fieldAt 29 (.pointer (some ⟨b, o, none⟩)) 1).run Try.prog w = .ok (.pointer (some ⟨b, o + 1, none⟩)) w := by go_simp
theorem fa29_2 {b o : Nat} (w : World) : (Instr.fieldAt 29 (.pointer (some ⟨b, o, none⟩)) 2).run Try.prog w = .ok (.pointer (some ⟨b, o + 2, none⟩)) w := by go_simp
theorem fa77_0 {b o : Nat} (w : World) : (Instr.fieldAt 77 (.pointer (some ⟨b, o, none⟩)) 0).run Try.prog w = .ok (.pointer (some ⟨b, o, none⟩)) w := by go_simp
theorem fa77_1 {b o : Nat} (w : World) : (Instr.fieldAt 77 (.pointer (some ⟨b, o, none⟩)) 1).run Try.prog w = .ok (.pointer (some ⟨b, o + 1, none⟩)) w := by go_simp
theorem fa77_2 {b o : Nat} (w : World) : (Instr.fieldAt 77 (.pointer (some ⟨b, o, none⟩)) 2).run Try.prog w = .ok (.pointer (some ⟨b, o + 2, none⟩)) w := by go_simp
theorem ld29 {w : World} {b : Nat} {u v x : Value} (h : w.cell? ⟨b, 0, none⟩ = some u ∧ w.cell? ⟨b, 1, none⟩ = some v ∧ w.cell? ⟨b, 2, none⟩ = some x) : (Instr.loadAt 29 (.pointer (some ⟨b, 0, none⟩))).run Try.prog w = .ok (.agg #[u, v, x]) w := by
  obtain ⟨h0, h1, h2⟩ := h
  go_simp
theorem ld77 {w : World} {b : Nat} {u v x : Value} (h : w.cell? ⟨b, 0, none⟩ = some u ∧ w.cell? ⟨b, 1, none⟩ = some v ∧ w.cell? ⟨b, 2, none⟩ = some x) : (Instr.loadAt 77 (.pointer (some ⟨b, 0, none⟩))).run Try.prog w = .ok (.agg #[u, v, x]) w := by
  obtain ⟨h0, h1, h2⟩ := h
  go_simp
theorem bx29 (w : World) (o t : Int) (A : Option Addr) (n c : Nat) : (Instr.box 29 (.agg #[.int .i64 o, .int .i64 t, .slice A n c])).run Try.prog w = .ok (.pointer (some ⟨w.heap.size, 0, none⟩)) (w.alloc (.cells #[.int .i64 o, .int .i64 t, .slice A n c] 29)) := by
  go_simp
theorem ix22 {b o n c : Nat} {i : Nat} (h : i < n) (w : World) : (Instr.indexAt 22 (.slice (some ⟨b, o, none⟩) n c) (.int .i64 i)).run Try.prog w = .ok (.pointer (some ⟨b, o + i, none⟩)) w := by
  go_simp
section
variable {P : Program} {ops : Array Oper} {K : Act → World → Prop} {k i d : Nat} {a : Act} {w : World} {ty : TypeId} {pos : String} {aft : Array Edge} {gd : Option (Nat × Bool)}
theorem ListK.mkB {f : Fn} {bs cs : Array Operand} {us vs : Array Value} {v : Value} (hi : ops[i]? = some ⟨some d, .makeFunc f bs cs, ty, pos, aft, gd⟩) (hb : bs.map a.eval = us) (hc : cs.map a.eval = vs) (hv : (Instr.makeFunc f us vs).run P w = .ok v w)
    (h : ListK P ops K k (i + 1) (a.put (some d) v) w) (hw : Region.wanted ⟨some d, .makeFunc f bs cs, ty, pos, aft, gd⟩ (yielded ops a.tmps) = true := by rfl) : ListK P ops K (k + 1) i a w :=
  ListK.valW hi hw (by
    simp [execOp, hb, hc, hv]) h
theorem ListK.sliceN {t : TypeId} {x : Operand} {u v : Value} (hi : ops[i]? = some ⟨some d, .slice t x none none none, ty, pos, aft, gd⟩) (hx : a.eval x = u) (hv : (Instr.sliceAt t u none none none).run P w = .ok v w)
    (h : ListK P ops K k (i + 1) (a.put (some d) v) w) (hw : Region.wanted ⟨some d, .slice t x none none none, ty, pos, aft, gd⟩ (yielded ops a.tmps) = true := by rfl) : ListK P ops K (k + 1) i a w := ListK.valW hi hw (by simp [execOp, hx, hv]) h
theorem ListK.sliceH {t : TypeId} {x y : Operand} {u u' v : Value} (hi : ops[i]? = some ⟨some d, .slice t x none (some y) none, ty, pos, aft, gd⟩) (hx : a.eval x = u) (hy : a.eval y = u') (hv : (Instr.sliceAt t u none (some u') none).run P w = .ok v w)
    (h : ListK P ops K k (i + 1) (a.put (some d) v) w) (hw : Region.wanted ⟨some d, .slice t x none (some y) none, ty, pos, aft, gd⟩ (yielded ops a.tmps) = true := by rfl) : ListK P ops K (k + 1) i a w := ListK.valW hi hw (by simp [execOp, hx, hy, hv]) h
theorem ListK.sliceL {t : TypeId} {x y : Operand} {u u' v : Value} (hi : ops[i]? = some ⟨some d, .slice t x (some y) none none, ty, pos, aft, gd⟩) (hx : a.eval x = u) (hy : a.eval y = u') (hv : (Instr.sliceAt t u (some u') none none).run P w = .ok v w)
    (h : ListK P ops K k (i + 1) (a.put (some d) v) w) (hw : Region.wanted ⟨some d, .slice t x (some y) none none, ty, pos, aft, gd⟩ (yielded ops a.tmps) = true := by rfl) : ListK P ops K (k + 1) i a w := ListK.valW hi hw (by simp [execOp, hx, hy, hv]) h
theorem OpW.callF {p : Value → World → Prop} {f : FuncId} {fo : Operand} {first caps : Array Value} {args : Array Operand} {tys : Array TypeId} {vs : Array Value} (he : ∀ args w, (callFunc f args).run P w = .ok (.enter f args) w) (hf : a.eval fo = .func (.func f) first caps) (hp : args.map a.eval = vs)
    (h : Calls P f (first ++ (vs ++ caps)) w fun e w' => ∃ v, e = .returned v ∧ p v w' ∧ Below w.heap.size w w') : OpW P p ⟨some d, .call { callee := .value fo, args := args, argTypes := tys }, ty, pos, aft, gd⟩ d a w := by
  unfold OpW
  simp only [Oper.wp, execOp, resolve, hp, hf, Deferred.ofValue]
  simp [invoke, he, Oper.upon]
  refine h.mono ?_
  rintro e w' ⟨v, rfl, h1, h2⟩
  exact ⟨v, rfl, h1, h2⟩
end
end Go.Proofs.YtmdlmmfbcnkanaaR
namespace Go.Proofs.YtmdlmmfbcnkanaaR
open Go.RowKit

set_option maxHeartbeats 400000 in
theorem within_any (n lo hi : Int) (w : World) :
    Calls Try.prog 44 #[.int .i64 n, .int .i64 lo, .int .i64 hi] w fun e w' => e = .returned (.bool (inR n lo hi)) ∧ w = w' := by
  by_cases h1 : lo ≤ n
  · go_enter Try.func44, Try.ntmps44
    go_wp2
    go_ret
    exact ⟨by simp [inR, h1], rfl⟩
  · have hd : decide (lo ≤ n) = false := by simpa using h1
    go_enter Try.func44, Try.ntmps44
    go_wp2
    go_ret
    exact ⟨by simp [inR]; omega, rfl⟩
set_option maxHeartbeats 400000 in
theorem reading_any (n : Int) (w : World) :
    Calls Try.prog 43 #[.int .i64 n] w fun e w' => e = .returned (.bool (inR n 0 99)) ∧ w = w' := by
  go_enter Try.func43, Try.ntmps43
  go_wp2_with (go_at_call 44; refine (within_any _ _ _ _).mono ?_; rintro e w' ⟨rfl, rfl⟩)
  go_ret
  exact ⟨rfl, rfl⟩
/-- The cells of a series; of a head. -/
abbrev serV (s : Ser) (A : Option Addr) (c : Nat) : Value := .agg #[.int .i64 s.width, .int .i64 s.step, .slice A s.rd.length c]
abbrev headV (many width step : Int) : Value := .agg #[.int .i64 many, .int .i64 width, .int .i64 step]
set_option maxHeartbeats 400000 in
theorem sHead_any (wd st : Int) (A : Option Addr) (n c : Nat) (w : World) :
    Calls Try.prog 45 #[.agg #[.int .i64 wd, .int .i64 st, .slice A n c]] w fun e w' => e = .returned (headV n wd st) ∧ Below w.heap.size w w' := by
  go_enter Try.func45, Try.ntmps45
  go_wp2_with fail
  refine bodyPost_ret (v := headV n wd st) (by simp [results, Try.results45, go_sem]) rfl ⟨rfl, ?_⟩
  exact (((Below.refl _ _).alloc (Nat.le_refl _) _).alloc (by simp) _)
set_option maxHeartbeats 400000 in
theorem valid_any (m wd st : Int) (w : World) :
    Calls Try.prog 46 #[headV m wd st] w fun e w' => e = .returned (.bool (headOk m wd st)) ∧ Below w.heap.size w w' := by
  have hb : Below w.heap.size w (w.alloc (.cells #[.int .i64 m, .int .i64 wd, .int .i64 st] 77)) := (Below.refl _ _).alloc (Nat.le_refl _) _
  go_enter Try.func46, Try.ntmps46
  go_wp2_with (go_at_call 44; refine (within_any _ _ _ _).mono ?_; rintro e w' ⟨rfl, rfl⟩)
  all_goals
    go_ret
    exact ⟨by simp_all [headOk], hb⟩
set_option maxHeartbeats 400000 in
theorem near_any (m wd st a b : Int) (w : World) (hs : -1000 ≤ st) (hs' : st ≤ 1000) (ha : -100000 ≤ a) (ha' : a ≤ 100000) (hb : -100000 ≤ b) (hb' : b ≤ 100000) :
    Calls Try.prog 48 #[headV m wd st, .int .i64 a, .int .i64 b] w fun e w' => e = .returned (.bool (nearB a b st)) ∧ Below w.heap.size w w' := by
  go_enter Try.func48, Try.ntmps48
  go_wp2_with (go_at_call 44; refine (within_any _ _ _ _).mono ?_; rintro e w' ⟨rfl, rfl⟩)
  go_ret
  exact ⟨rfl, (Below.refl _ _).alloc (Nat.le_refl _) _⟩
end Go.Proofs.YtmdlmmfbcnkanaaR
namespace Go.Proofs.YtmdlmmfbcnkanaaR
open Go.RowKit Go.Shelf
/-- A byte as a value. -/
abbrev u8V (b : UInt8) : Value := .int .u8 (b.toNat : Int)
theorem hi2_nat {n : Nat} (h : n ≤ 99) : (hi2 n).toNat = 48 + n / 10 := by
  unfold hi2
  simp [UInt8.toNat_ofNat']
  omega
theorem lo2_nat {n : Nat} (h : n ≤ 99) : (lo2 n).toNat = 48 + n % 10 := by
  unfold lo2
  simp [UInt8.toNat_ofNat']
  omega
set_option maxHeartbeats 1000000 in
theorem digits_any (g : Nat) (cs : Array Value) (at_ n : Nat) (w : World) (hw : Whole w g 83 cs) (hcs : cs.size = 7) (hat : at_ + 1 < 7) (hn : n ≤ 99) :
    Calls Try.prog 78 #[.pointer (some ⟨g, 0, none⟩), .int .i64 at_, .int .i64 n] w fun e w' => (∃ v, e = .returned v) ∧ Whole w' g 83 ((cs.setIfInBounds at_ (u8V (hi2 n))).setIfInBounds (at_ + 1) (u8V (lo2 n))) ∧ Else (fun k => k = g) w w' := by
  have g1 : w.cell? ⟨g, at_, none⟩ = some cs[at_] := (hw.cell at_).trans (Array.getElem?_eq_getElem (by omega))
  have g2 : w.cell? ⟨g, at_ + 1, none⟩ = some cs[at_ + 1] := (hw.cell (at_ + 1)).trans (Array.getElem?_eq_getElem (by omega))
  have f1 := hw.frozen at_
  have f2 := hw.frozen (at_ + 1)
  have HW := Lib.hid hw
  clear hw
  go_enter Try.func78, Try.ntmps78
  go_wp2
  go_region
  go_end0
  refine ⟨⟨_, rfl⟩, ?_, ?_⟩
  · have e1 : (48 + (n : Int) / 10) = ((hi2 n).toNat : Int) := by rw [hi2_nat hn]; omega
    have e2 : (48 + (n : Int) % 10) = ((lo2 n).toNat : Int) := by rw [lo2_nat hn]; omega
    rw [e1, e2]
    exact ((HW.out.set at_ _).set (at_ + 1) _)
  · exact (((Else.refl (fun k => k = g) w).setCell (p := ⟨g, at_, none⟩) (.inl rfl) _).setCell (p := ⟨g, at_ + 1, none⟩) (.inl rfl) _).trans (Else.drew (Else.refl _ _))
/-- The cells of a record. -/
def recC (r : List UInt8) : Array Value := (r.map u8V).toArray
set_option maxHeartbeats 1000000 in
theorem check7_any (g : Nat) (c0 c1 c2 c3 c4 : UInt8) (x y : Value) (w : World) (hw : Whole w g 83 #[u8V c0, u8V c1, u8V c2, u8V c3, u8V c4, x, y]) :
    Calls Try.prog 79 #[.pointer (some ⟨g, 0, none⟩)] w fun e w' => e = .returned (.int .i64 (chk5 c0 c1 c2 c3 c4)) ∧ w = w' := by
  have g0 := hw.cell 0
  have g1 := hw.cell 1
  have g2 := hw.cell 2
  have g3 := hw.cell 3
  have g4 := hw.cell 4
  have b0 := c0.toNat_lt
  have b1 := c1.toNat_lt
  have b2 := c2.toNat_lt
  have b3 := c3.toNat_lt
  have b4 := c4.toNat_lt
  have HW := Lib.hid hw
  clear hw
  go_enter Try.func79, Try.ntmps79
  simp only [List.getElem?_toArray, List.getElem?_cons_zero, List.getElem?_cons_succ] at g0 g1 g2 g3 g4
  go_wp2
  go_loop [2, 9] (fun n i => (n = .int .i64 0 ∧ i = .int .i64 0) ∨ (n = .int .i64 (2 * (c0.toNat : Int)) ∧ i = .int .i64 1) ∨ (n = .int .i64 (2 * (c0.toNat : Int) + 3 * c1.toNat) ∧ i = .int .i64 2) ∨ (n = .int .i64 (2 * (c0.toNat : Int) + 3 * c1.toNat + 4 * c2.toNat) ∧ i = .int .i64 3) ∨ (n = .int .i64 (2 * (c0.toNat : Int) + 3 * c1.toNat + 4 * c2.toNat + 5 * c3.toNat) ∧ i = .int .i64 4) ∨ (n = .int .i64 (2 * (c0.toNat : Int) + 3 * c1.toNat + 4 * c2.toNat + 5 * c3.toNat + 6 * c4.toNat) ∧ i = .int .i64 5)) (fun _ i => (5 - intOf i).toNat)
  case atStart => exact .inl ⟨rfl, rfl⟩
  case round =>
    rcases hrel with ⟨rfl, rfl⟩ | ⟨rfl, rfl⟩ | ⟨rfl, rfl⟩ | ⟨rfl, rfl⟩ | ⟨rfl, rfl⟩ | ⟨rfl, rfl⟩
    · go_wp2
      go_round
      case rel => exact .inr (.inl ⟨by go_num, rfl⟩)
      case measure => simp [intOf]
    · go_wp2
      go_round
      case rel => exact .inr (.inr (.inl ⟨by go_num, rfl⟩))
      case measure => simp [intOf]
    · go_wp2
      go_round
      case rel => exact .inr (.inr (.inr (.inl ⟨by go_num, rfl⟩)))
      case measure => simp [intOf]
    · go_wp2
      go_round
      case rel => exact .inr (.inr (.inr (.inr (.inl ⟨by go_num, rfl⟩))))
      case measure => simp [intOf]
    · go_wp2
      go_round
      case rel => exact .inr (.inr (.inr (.inr (.inr ⟨by go_num, rfl⟩))))
      case measure => simp [intOf]
    · go_wp2
      go_ret
      exact ⟨by unfold chk5; simp, rfl⟩
end Go.Proofs.YtmdlmmfbcnkanaaR
namespace Go.Proofs.YtmdlmmfbcnkanaaR
open Go.RowKit Go.Shelf
abbrev z7 : Array Value := #[.int .u8 0, .int .u8 0, .int .u8 0, .int .u8 0, .int .u8 0, .int .u8 0, .int .u8 0]
theorem al83 (w : World) : (Instr.alloc 83 true (.tuple #[])).run Try.prog w = .ok (.pointer (some ⟨w.heap.size, 0, none⟩)) (w.alloc (.cells z7 83)) := by
  go_simp
theorem ix83 {b o i : Nat} (h : i < 7) (w : World) : (Instr.indexAt 83 (.pointer (some ⟨b, o, none⟩)) (.int .i64 i)).run Try.prog w = .ok (.pointer (some ⟨b, o + i, none⟩)) w := by
  go_simp
  intro h7
  omega
theorem st5 {w : World} {p : Addr} {v : Value} {u : Int} (h : w.cell? p = some v) (hf : w.frozen? p = false) : (Instr.storeAt 5 (.pointer (some p)) (.int .u8 u)).run Try.prog w = .ok () (w.setCell p (.int .u8 u)) := by
  go_simp
theorem ld5 {w : World} {p : Addr} {v : Value} (h : w.cell? p = some v) : (Instr.loadAt 5 (.pointer (some p))).run Try.prog w = .ok v w := by
  go_simp
/-- A whole record is written. -/
def put7 (w : World) (b : Nat) (v0 v1 v2 v3 v4 v5 v6 : Value) : World := ((((((w.setCell ⟨b, 0, none⟩ v0).setCell ⟨b, 1, none⟩ v1).setCell ⟨b, 2, none⟩ v2).setCell ⟨b, 3, none⟩ v3).setCell ⟨b, 4, none⟩ v4).setCell ⟨b, 5, none⟩ v5).setCell ⟨b, 6, none⟩ v6
theorem put7_whole {w : World} {b : Nat} {u0 u1 u2 u3 u4 u5 u6 : Value} (h : Whole w b 83 #[u0, u1, u2, u3, u4, u5, u6]) (v0 v1 v2 v3 v4 v5 v6 : Value) : Whole (put7 w b v0 v1 v2 v3 v4 v5 v6) b 83 #[v0, v1, v2, v3, v4, v5, v6] := by
  have := ((((((h.set 0 v0).set 1 v1).set 2 v2).set 3 v3).set 4 v4).set 5 v5).set 6 v6
  simp only [List.setIfInBounds_toArray, List.set_cons_zero, List.set_cons_succ] at this
  exact this
theorem seven {w : World} {b : Nat} {v0 v1 v2 v3 v4 v5 v6 : Value} (h : Whole w b 83 #[v0, v1, v2, v3, v4, v5, v6]) : w.cell? ⟨b, 0, none⟩ = some v0 ∧ w.cell? ⟨b, 1, none⟩ = some v1 ∧ w.cell? ⟨b, 2, none⟩ = some v2 ∧ w.cell? ⟨b, 3, none⟩ = some v3 ∧ w.cell? ⟨b, 4, none⟩ = some v4 ∧ w.cell? ⟨b, 5, none⟩ = some v5 ∧ w.cell? ⟨b, 6, none⟩ = some v6 :=
  ⟨h.cell 0, h.cell 1, h.cell 2, h.cell 3, h.cell 4, h.cell 5, h.cell 6⟩
theorem ld83 {w : World} {b : Nat} {v0 v1 v2 v3 v4 v5 v6 : Value} (h : Whole w b 83 #[v0, v1, v2, v3, v4, v5, v6]) : (Instr.loadAt 83 (.pointer (some ⟨b, 0, none⟩))).run Try.prog w = .ok (.agg #[v0, v1, v2, v3, v4, v5, v6]) w := by
  obtain ⟨h0, h1, h2, h3, h4, h5, h6⟩ := seven h
  go_simp
theorem put7_else {w : World} {b : Nat} (v0 v1 v2 v3 v4 v5 v6 : Value) : Else (fun k => k = b) w (put7 w b v0 v1 v2 v3 v4 v5 v6) :=
  ((((((((Else.refl (fun k => k = b) w).setCell (p := ⟨b, 0, none⟩) (.inl rfl) v0).setCell (p := ⟨b, 1, none⟩) (.inl rfl) v1).setCell (p := ⟨b, 2, none⟩) (.inl rfl) v2).setCell (p := ⟨b, 3, none⟩) (.inl rfl) v3).setCell (p := ⟨b, 4, none⟩) (.inl rfl) v4).setCell (p := ⟨b, 5, none⟩) (.inl rfl) v5).setCell (p := ⟨b, 6, none⟩) (.inl rfl) v6)
theorem st83 {w : World} {b : Nat} {u0 u1 u2 u3 u4 u5 u6 : Value} {n0 n1 n2 n3 n4 n5 n6 : Int} (h : Whole w b 83 #[u0, u1, u2, u3, u4, u5, u6]) : (Instr.storeAt 83 (.pointer (some ⟨b, 0, none⟩)) (.agg #[.int .u8 n0, .int .u8 n1, .int .u8 n2, .int .u8 n3, .int .u8 n4, .int .u8 n5, .int .u8 n6])).run Try.prog w = .ok () (put7 w b (.int .u8 n0) (.int .u8 n1) (.int .u8 n2) (.int .u8 n3) (.int .u8 n4) (.int .u8 n5) (.int .u8 n6)) := by
  obtain ⟨h0, h1, h2, h3, h4, h5, h6⟩ := seven h
  have f0 := h.frozen 0
  have f1 := h.frozen 1
  have f2 := h.frozen 2
  have f3 := h.frozen 3
  have f4 := h.frozen 4
  have f5 := h.frozen 5
  have f6 := h.frozen 6
  unfold put7
  go_simp
theorem res83 {fn : Func} {k b : Nat} {W : World} {a : Act} {v0 v1 v2 v3 v4 v5 v6 : Value} (h : fn.results = #[.cell k 83]) (he : a.eval (.tmp k) = .pointer (some ⟨b, 0, none⟩)) (hw : Whole W b 83 #[v0, v1, v2, v3, v4, v5, v6]) :
    (results fn a.tmps).run Try.prog W = .ok (.agg #[v0, v1, v2, v3, v4, v5, v6]) W := by
  have he' : a.tmps[k]?.getD undef = .pointer (some ⟨b, 0, none⟩) := by simpa [Act.eval] using he
  obtain ⟨h0, h1, h2, h3, h4, h5, h6⟩ := seven hw
  simp only [results, h]
  simp [he']
  go_simp
end Go.Proofs.YtmdlmmfbcnkanaaR
namespace Go.Proofs.YtmdlmmfbcnkanaaR
open Go.RowKit Go.Shelf
theorem Try.info5 : (Try.prog.info? 5).map (fun i => (i.zero, i.size, i.bytes)) = some (some (.int .u8 0), 1, 1) := by kernel_rfl
/-- Bytes that a value holds alone. -/
structure OB (W0 : World) (v : Value) (xs : List UInt8) (W : World) : Prop where
  low : Below W0.heap.size W0 W
  own : W.ownsRow W0.heap.size 5 1 v xs.length (xs.map u8V)
theorem OB.nil (W : World) : OB W (.slice none 0 0) [] W := ⟨Below.refl _ _, World.ownsRow_nil _ _ _ _⟩
theorem OB.below {W0 W W' : World} {v : Value} {xs : List UInt8} (b : OB W0 v xs W) (hb : Below W.heap.size W W') : OB W0 v xs W' :=
  ⟨b.low.trans (hb.mono b.low.size), b.own.kept (grown_of_below hb) (by cases v.ownBlock <;> simp)⟩
theorem OB.base {W0 W1 W : World} {v : Value} {xs : List UInt8} (h : OB W1 v xs W) (hb : Below W0.heap.size W0 W1) : OB W0 v xs W := ⟨hb.trans (h.low.mono hb.size), ownsRow_base h.own hb.size⟩
/-- Bytes at an address. -/
def BytesAt (w : World) (B : Nat) (A : Option Addr) (l : List UInt8) : Prop :=
  ∀ k x, l[k]? = some x → ∃ b off, A = some ⟨b, off, none⟩ ∧ b < B ∧ w.cell? ⟨b, off + k, none⟩ = some (u8V x)
theorem BytesAt.keep {w w' : World} {B : Nat} {A : Option Addr} {l : List UInt8} (h : BytesAt w B A l) (hk : ∀ b o, b < B → w'.cell? ⟨b, o, none⟩ = w.cell? ⟨b, o, none⟩) : BytesAt w' B A l := by
  intro k x hx
  obtain ⟨b, off, hA, hb, hc⟩ := h k x hx
  exact ⟨b, off, hA, hb, (hk b _ hb).trans hc⟩
theorem BytesAt.below {w w' : World} {B B' : Nat} {A : Option Addr} {l : List UInt8} (h : BytesAt w B A l) (hb : Below B' w w') (hB : B ≤ B') : BytesAt w' B A l :=
  h.keep fun b o hlt => hb.cell (p := ⟨b, o, none⟩) (Nat.lt_of_lt_of_le hlt hB)
theorem BytesAt.more {w : World} {B B' : Nat} {A : Option Addr} {l : List UInt8} (h : BytesAt w B A l) (hB : B ≤ B') : BytesAt w B' A l := by
  intro k x hx
  obtain ⟨b, off, hA, hb, hc⟩ := h k x hx
  exact ⟨b, off, hA, by omega, hc⟩
theorem OB.bytes {W0 W : World} {v : Value} {xs : List UInt8} (h : OB W0 v xs W) : ∃ A c, v = .slice A xs.length c ∧ xs.length ≤ c ∧ BytesAt W W.heap.size A xs := by
  rcases h.own.2 with ⟨h0, h1⟩ | ⟨g, cap, cur, h0, hb, hg, h1, h2, h3, h4⟩
  · have hl : xs.length = 0 := by
      exact h1
    refine ⟨none, 0, ?_, by omega, fun k x hx => ?_⟩
    · rw [h0, hl]
    · have := (List.getElem?_eq_some_iff.1 hx).1
      omega
  · subst h0
    refine ⟨some ⟨g, 0, none⟩, cap, rfl, h1, fun k x hx => ⟨g, 0, rfl, (Array.getElem?_eq_some_iff.1 hg).1, ?_⟩⟩
    have := h.own.cells (g := g) rfl k (u8V x) (by simp [hx])
    simp only [Addr.add] at this
    split at this
    · rename_i hk
      subst hk
      exact this
    · simpa using this
/-- Records at an address. -/
def RecsAt (w : World) (B : Nat) (A : Option Addr) (l : List (List UInt8)) : Prop :=
  ∀ k r, l[k]? = some r → r.length = 7 ∧ ∃ b off, A = some ⟨b, off, none⟩ ∧ b < B ∧ ∀ i x, r[i]? = some x → w.cell? ⟨b, off + k * 7 + i, none⟩ = some (u8V x)
theorem RecsAt.below {w w' : World} {B B' : Nat} {A : Option Addr} {l : List (List UInt8)} (h : RecsAt w B A l) (hb : Below B' w w') (hB : B ≤ B') : RecsAt w' B A l := by
  intro k r hr
  obtain ⟨h7, b, off, hA, hlt, hc⟩ := h k r hr
  exact ⟨h7, b, off, hA, hlt, fun i x hx => (hb.cell (p := ⟨b, _, none⟩) (Nat.lt_of_lt_of_le hlt hB)).trans (hc i x hx)⟩
theorem RecsAt.more {w : World} {B B' : Nat} {A : Option Addr} {l : List (List UInt8)} (h : RecsAt w B A l) (hB : B ≤ B') : RecsAt w B' A l := by
  intro k r hr
  obtain ⟨h7, b, off, hA, hlt, hc⟩ := h k r hr
  exact ⟨h7, b, off, hA, by omega, hc⟩
theorem len7 {r : List UInt8} (h : r.length = 7) : ∃ c0 c1 c2 c3 c4 c5 c6, r = [c0, c1, c2, c3, c4, c5, c6] := by
  match r, h with
  | [c0, c1, c2, c3, c4, c5, c6], _ => exact ⟨_, _, _, _, _, _, _, rfl⟩
theorem ix108 {b o n c : Nat} {i : Nat} (h : i < n) (w : World) : (Instr.indexAt 108 (.slice (some ⟨b, o, none⟩) n c) (.int .i64 i)).run Try.prog w = .ok (.pointer (some ⟨b, o + i * 7, none⟩)) w := by
  go_simp
theorem ld83o {w : World} {b o : Nat} {v0 v1 v2 v3 v4 v5 v6 : Value} (h0 : w.cell? ⟨b, o, none⟩ = some v0) (h1 : w.cell? ⟨b, o + 1, none⟩ = some v1) (h2 : w.cell? ⟨b, o + 2, none⟩ = some v2) (h3 : w.cell? ⟨b, o + 3, none⟩ = some v3) (h4 : w.cell? ⟨b, o + 4, none⟩ = some v4) (h5 : w.cell? ⟨b, o + 5, none⟩ = some v5) (h6 : w.cell? ⟨b, o + 6, none⟩ = some v6) :
    (Instr.loadAt 83 (.pointer (some ⟨b, o, none⟩))).run Try.prog w = .ok (.agg #[v0, v1, v2, v3, v4, v5, v6]) w := by
  go_simp
theorem sl83 {w : World} {b : Nat} : (Instr.sliceAt 83 (.pointer (some ⟨b, 0, none⟩)) none none none).run Try.prog w = .ok (.slice (some ⟨b, 0, none⟩) 7 7) w := by
  go_simp
theorem bs31 (x : Int) (w : World) : (Instr.buildSlice 31 1 #[(0, .int .u8 x)]).run Try.prog w = .ok (.slice (some ⟨w.heap.size, 0, none⟩) 1 1) (w.alloc (.cells #[.int .u8 x] 5)) := by
  go_simp
theorem ln108 (A : Option Addr) (n c : Nat) (ty : TypeId) (w : World) : (builtin .len #[108] ty #[false] #[.slice A n c]).run Try.prog w = .ok (.value (.int .i64 n)) w := by
  go_simp
theorem ln31 (A : Option Addr) (n c : Nat) (ty : TypeId) (w : World) : (builtin .len #[31] ty #[false] #[.slice A n c]).run Try.prog w = .ok (.value (.int .i64 n)) w := by
  go_simp
section
variable {ops : Array Oper} {K : Act → World → Prop} {k i d : Nat} {a : Act} {w : World} {ty : TypeId} {pos : String} {aft : Array Edge}
theorem app31_run {W0 W : World} {v : Value} {xs ys : List UInt8} {A : Option Addr} {c : Nat} {ty : TypeId} (h : OB W0 v xs W) (hy : BytesAt W W.heap.size A ys) (hx : xs.length ≤ 100000) (hl : ys.length ≤ 100000) (hpos : 0 < ys.length) :
    ∃ v' w', (Builtin.append_ #[31, 31] ty #[v, .slice A ys.length c]).run Try.prog W = .ok v' w' ∧ OB W0 v' (xs ++ ys) w' := by
  obtain ⟨i0, hi0, hi1, hi2, hi3⟩ := info_parts Try.info5
  obtain ⟨b, off, rfl, _, _⟩ := hy 0 ys[0] (List.getElem?_eq_getElem hpos)
  obtain ⟨g, cap, w', hr, h2, h3, h4, _⟩ := run_append_lies (P := Try.prog) W 31 ty W0.heap.size 5 i0 (.int .u8 0) 1 1 Try.underlying31 hi0 hi1 hi2 hi3 rfl (by omega) v xs.length (xs.map u8V) h.own ⟨b, off, none⟩ ys.length c (ys.map u8V) (by simp)
    (fun j u hu => by
      simp only [List.getElem?_map, Option.map_eq_some_iff] at hu
      obtain ⟨x, hx, rfl⟩ := hu
      obtain ⟨b', o', e, _, hc⟩ := hy j x hx
      cases e
      simp only [Addr.add]
      split
      · rename_i h0
        subst h0
        simpa using hc
      · exact hc) (fun u hu => by
        obtain ⟨x, _, rfl⟩ := List.mem_map.1 hu
        rfl) hpos (by unfold maxLen; omega) (by omega) h.low.size W.heap.size rfl
  exact ⟨_, w', hr, h.low.grown h3 h.low.size (fun k e => (h.own.lt k e).1), by rw [List.length_append, List.map_append]; exact h2⟩
theorem ListK.app31 {w' : World} {s x : Operand} {v v2 v' : Value} (hi : ops[i]? = some ⟨some d, .call { callee := .builtin .append, args := #[s, x], argTypes := #[31, 31] }, ty, pos, aft, none⟩) (hs : a.eval s = v) (hx : a.eval x = v2)
    (hr : (Builtin.append_ #[31, 31] ty #[v, v2]).run Try.prog w = .ok v' w') (h : ListK Try.prog ops K k (i + 1) (a.put (some d) v') w') : ListK Try.prog ops K (k + 1) i a w := by
  refine ListK.val hi rfl ?_ h
  simp [execOp, resolve, invoke, builtin, hs, hx, hr]
end
theorem linesL_app (l l' : List (List UInt8)) : linesL (l ++ l') = linesL l ++ linesL l' := by
  induction l with
  | nil => simp [linesL]
  | cons r l ih => simp [linesL, ih]
theorem linesL_take {l : List (List UInt8)} {k : Nat} (hk : k < l.length) : linesL (l.take (k + 1)) = linesL (l.take k) ++ l[k] ++ [10] := by
  rw [List.take_succ_eq_append_getElem hk, linesL_app]
  simp [linesL]
theorem linesL_len {l : List (List UInt8)} (h : ∀ r, r ∈ l → r.length = 7) : (linesL l).length = 8 * l.length := by
  induction l with
  | nil => simp [linesL]
  | cons r l ih =>
    have := ih (fun r hr => h r (List.mem_cons_of_mem _ hr))
    have h7 := h r List.mem_cons_self
    simp [linesL, this, h7]
    omega
end Go.Proofs.YtmdlmmfbcnkanaaR
namespace Go.Proofs.YtmdlmmfbcnkanaaR
open Go.RowKit Go.Shelf
theorem bs108 (n0 n1 n2 n3 n4 n5 n6 : Int) (w : World) : (Instr.buildSlice 108 1 #[(0, .agg #[.int .u8 n0, .int .u8 n1, .int .u8 n2, .int .u8 n3, .int .u8 n4, .int .u8 n5, .int .u8 n6])]).run Try.prog w = .ok (.slice (some ⟨w.heap.size, 0, none⟩) 1 1) (w.alloc (.cells #[.int .u8 n0, .int .u8 n1, .int .u8 n2, .int .u8 n3, .int .u8 n4, .int .u8 n5, .int .u8 n6] 83)) := by
  go_simp
/-- The world behind a slice of one record. -/
def oneRec (w : World) (r : List UInt8) : World := w.alloc (.cells (recC r) 83)
theorem bs108r {r : List UInt8} (h : r.length = 7) (w : World) : (Instr.buildSlice 108 1 #[(0, .agg (recC r))]).run Try.prog w = .ok (.slice (some ⟨w.heap.size, 0, none⟩) 1 1) (oneRec w r) := by
  obtain ⟨c0, c1, c2, c3, c4, c5, c6, rfl⟩ := len7 h
  exact bs108 _ _ _ _ _ _ _ w
theorem oneRec_at {r : List UInt8} (h : r.length = 7) (w : World) : RecsAt (oneRec w r) (oneRec w r).heap.size (some ⟨w.heap.size, 0, none⟩) [r] := by
  intro k r' hr
  match k, hr with
  | 0, hr =>
    simp at hr
    subst hr
    refine ⟨h, _, 0, rfl, by simp [oneRec], fun i x hx => ?_⟩
    have hw := (Whole.new w 83 (recC r)).cell i
    have : (recC r)[i]? = some (u8V x) := by
      unfold recC
      simp [hx]
    rw [this] at hw
    simpa [oneRec] using hw
theorem oneRec_low (w : World) (r : List UInt8) : Below w.heap.size w (oneRec w r) := (Below.refl _ w).alloc (Nat.le_refl _) _
theorem made_len (k : UInt8) (a b : Nat) : (made k a b).length = 7 := rfl
section
variable {K : Act → World → Prop} {Kp : Nat → World → World → Prop} {fuel : Nat} {listed : Array Bool} {a : Act} {w w' : World} {i d : Nat} {ty : TypeId} {pos : String} {aft : Array Edge} {v v2 v' : Value}
theorem StepK.app31 {ops : Array Oper} {s z : Operand} (hi : ops[i]? = some ⟨some d, .call { callee := .builtin .append, args := #[s, z], argTypes := #[31, 31] }, ty, pos, aft, none⟩) (hs : a.eval s = v) (hx : a.eval z = v2)
    (hr : (Builtin.append_ #[31, 31] ty #[v, v2]).run Try.prog w = .ok v' w') (hk : Kp i w w') (h : AnyK Try.prog ops K Kp fuel (listed.setIfInBounds i true) (a.put (some d) v') w') : StepK Try.prog ops K Kp fuel listed a w i := by
  unfold StepK opG
  simp only [hi]
  rw [if_pos (show Region.wanted _ _ = true from rfl)]
  simp [Oper.wp, execOp, resolve, invoke, builtin, hs, hx, hr, Oper.upon]
  exact ⟨hk, h⟩
end
end Go.Proofs.YtmdlmmfbcnkanaaR
namespace Go.Proofs.YtmdlmmfbcnkanaaR
open Go.RowKit Go.Shelf
def closesB (many width n : Int) : Bool := n == many - 1 || n % width == width - 1
set_option maxHeartbeats 1000000 in
theorem closes_any (m wd st n : Int) (w : World) (hm : 0 ≤ m) (hm' : m ≤ 1000) (hw : 1 ≤ wd) (hw' : wd ≤ 1000) (hn : 0 ≤ n) (hn' : n ≤ 1000) :
    Calls Try.prog 51 #[headV m wd st, .int .i64 n] w fun e w' => e = .returned (.bool (closesB m wd n)) ∧ Below w.heap.size w w' := by
  have hr : n.tmod wd = n % wd := Int.tmod_eq_emod_of_nonneg hn
  have hne : wd ≠ 0 := by omega
  have hb : Below w.heap.size w (w.alloc (.cells #[.int .i64 m, .int .i64 wd, .int .i64 st] 77)).drew := ((Below.refl _ _).alloc (Nat.le_refl _) _).drew
  have HB := Lib.hid hb
  clear hb
  by_cases h : n = m - 1
  · have h2 : (n == m - 1) = true := by simpa using h
    have hF : closesB m wd n = true := by simp [closesB, h2]
    go_enter Try.func51, Try.ntmps51
    go_wp2
    go_region
    all_goals
      go_wp2
      go_ret
      exact ⟨by rw [hF]; rfl, HB.out⟩
  · have h2 : (n == m - 1) = false := by simpa using h
    have hF : closesB m wd n = (n % wd == wd - 1) := by simp [closesB, h2]
    go_enter Try.func51, Try.ntmps51
    go_wp2
    go_region
    all_goals
      go_wp2
      go_ret
      exact ⟨by rw [hF, ← hr]; rfl, HB.out⟩
set_option maxHeartbeats 400000 in
theorem min_two (b off c : Nat) (x y : Int) (w : World) (h0 : w.cell? ⟨b, off, none⟩ = some (.int .i64 x)) (h1 : w.cell? ⟨b, off + 1, none⟩ = some (.int .i64 y)) :
    Calls Try.prog 96 #[.slice (some ⟨b, off, none⟩) 2 c] w fun e w' => e = .returned (.int .i64 (min x y)) ∧ w = w' := by
  go_enter Try.func96, Try.ntmps96
  go_wp2
  go_loop [3, 4] (fun m i => (m = .int .i64 x ∧ i = .int .i64 1) ∨ (m = .int .i64 (min x y) ∧ i = .int .i64 2)) (fun _ i => (2 - intOf i).toNat)
  case atStart => exact .inl ⟨rfl, rfl⟩
  case round =>
    rcases hrel with ⟨rfl, rfl⟩ | ⟨rfl, rfl⟩
    · go_wp2
      go_round
      case rel => exact .inr ⟨by rw [show (if y < x then y else x) = min x y from by split <;> omega], rfl⟩
      case measure => simp [intOf]
    · go_wp2
      go_ret
      exact ⟨rfl, rfl⟩
set_option maxHeartbeats 400000 in
theorem least_two (b off c : Nat) (x y : Int) (w : World) (h0 : w.cell? ⟨b, off, none⟩ = some (.int .i64 x)) (h1 : w.cell? ⟨b, off + 1, none⟩ = some (.int .i64 y)) :
    Calls Try.prog 80 #[.slice (some ⟨b, off, none⟩) 2 c] w fun e w' => e = .returned (.int .i64 (min x y)) ∧ w = w' := by
  have H0 := Lib.hid h0
  have H1 := Lib.hid h1
  clear h0 h1
  go_enter Try.func80, Try.ntmps80
  go_wp2_with (go_at_call 96; refine (min_two b off c x y _ H0.out H1.out).mono ?_; rintro e w' ⟨rfl, rfl⟩)
  go_ret
  exact ⟨rfl, rfl⟩
theorem bs22_2 (x y : Int) (w : World) : (Instr.buildSlice 22 2 #[(0, .int .i64 x), (1, .int .i64 y)]).run Try.prog w = .ok (.slice (some ⟨w.heap.size, 0, none⟩) 2 2) (w.alloc (.cells #[.int .i64 x, .int .i64 y] 3)) := by
  go_simp
end Go.Proofs.YtmdlmmfbcnkanaaR
namespace Go.Proofs.YtmdlmmfbcnkanaaR
open Go.RowKit Go.Shelf
theorem dig_wrap (b : UInt8) : IntKind.u8.wrap ((b.toNat : Int) - 48) = (dig b : Int) := by
  have := b.toNat_lt
  unfold dig
  rw [UInt8.toNat_sub, IntKind.wrap_u8]
  simp
  omega
theorem dig_lt (b : UInt8) : dig b < 256 := by
  unfold dig
  exact UInt8.toNat_lt _
/-- A record as a value. -/
abbrev rV (c0 c1 c2 c3 c4 c5 c6 : UInt8) : Value := .agg #[u8V c0, u8V c1, u8V c2, u8V c3, u8V c4, u8V c5, u8V c6]
abbrev r7 (c0 c1 c2 c3 c4 c5 c6 : UInt8) : Array Value := #[u8V c0, u8V c1, u8V c2, u8V c3, u8V c4, u8V c5, u8V c6]
theorem bx83 (n0 n1 n2 n3 n4 n5 n6 : Int) (w : World) : (Instr.box 83 (.agg #[.int .u8 n0, .int .u8 n1, .int .u8 n2, .int .u8 n3, .int .u8 n4, .int .u8 n5, .int .u8 n6])).run Try.prog w = .ok (.pointer (some ⟨w.heap.size, 0, none⟩)) (w.alloc (.cells #[.int .u8 n0, .int .u8 n1, .int .u8 n2, .int .u8 n3, .int .u8 n4, .int .u8 n5, .int .u8 n6] 83)) := by
  go_simp
section
variable (c0 c1 c2 c3 c4 c5 c6 : UInt8) (w : World)
set_option maxHeartbeats 1000000 in
theorem number1 : Calls Try.prog 59 #[rV c0 c1 c2 c3 c4 c5 c6, .int .i64 1] w fun e w' => e = .returned (.int .i64 (num2 c1 c2)) ∧ Below w.heap.size w w' := by
  have d1 := dig_wrap c1
  have d2 := dig_wrap c2
  have l1 := dig_lt c1
  have l2 := dig_lt c2
  have hb : Below w.heap.size w (w.alloc (.cells (r7 c0 c1 c2 c3 c4 c5 c6) 83)).drew := ((Below.refl _ _).alloc (Nat.le_refl _) _).drew
  have HB := Lib.hid hb
  clear hb
  go_enter Try.func59, Try.ntmps59
  go_wp2
  go_region
  all_goals
    go_wp2
    go_ret
    exact ⟨by simp [num2], HB.out⟩
set_option maxHeartbeats 1000000 in
theorem number3 : Calls Try.prog 59 #[rV c0 c1 c2 c3 c4 c5 c6, .int .i64 3] w fun e w' => e = .returned (.int .i64 (num2 c3 c4)) ∧ Below w.heap.size w w' := by
  have d1 := dig_wrap c3
  have d2 := dig_wrap c4
  have l1 := dig_lt c3
  have l2 := dig_lt c4
  have hb : Below w.heap.size w (w.alloc (.cells (r7 c0 c1 c2 c3 c4 c5 c6) 83)).drew := ((Below.refl _ _).alloc (Nat.le_refl _) _).drew
  have HB := Lib.hid hb
  clear hb
  go_enter Try.func59, Try.ntmps59
  go_wp2
  go_region
  all_goals
    go_wp2
    go_ret
    exact ⟨by simp [num2], HB.out⟩
set_option maxHeartbeats 1000000 in
theorem number5 : Calls Try.prog 59 #[rV c0 c1 c2 c3 c4 c5 c6, .int .i64 5] w fun e w' => e = .returned (.int .i64 (num2 c5 c6)) ∧ Below w.heap.size w w' := by
  have d1 := dig_wrap c5
  have d2 := dig_wrap c6
  have l1 := dig_lt c5
  have l2 := dig_lt c6
  have hb : Below w.heap.size w (w.alloc (.cells (r7 c0 c1 c2 c3 c4 c5 c6) 83)).drew := ((Below.refl _ _).alloc (Nat.le_refl _) _).drew
  have HB := Lib.hid hb
  clear hb
  go_enter Try.func59, Try.ntmps59
  go_wp2
  go_region
  all_goals
    go_wp2
    go_ret
    exact ⟨by simp [num2], HB.out⟩

set_option maxHeartbeats 1000000 in
theorem anyR : Calls Try.prog 91 #[rV c0 c1 c2 c3 c4 c5 c6] w fun e w' => e = .returned (.bool true) ∧ Below w.heap.size w w' := by
  go_enter Try.func91, Try.ntmps91
  go_wp2_with fail
  go_ret
  exact ⟨rfl, (Below.refl _ _).alloc (Nat.le_refl _) _⟩
theorem blocks_e {m wd : Nat} (hm : m ≤ 1000) (hw : 1 ≤ wd) (hw' : wd ≤ 1000) : wrap64 (((m + wd - 1 : Nat) : Int) / (wd : Int)) = (((m + wd - 1) / wd : Nat) : Int) := by
  have hq : (m + wd - 1) / wd ≤ m + wd - 1 := Nat.div_le_self _ _
  rw [← Int.natCast_ediv]
  generalize (m + wd - 1) / wd = q at *
  unfold wrap64
  omega
set_option maxHeartbeats 1000000 in
theorem blocks_any (m wd st : Nat) (hm : m ≤ 1000) (hw : 1 ≤ wd) (hw' : wd ≤ 1000) : Calls Try.prog 84 #[headV m wd st] w fun e w' => e = .returned (.int .i64 ((m + wd - 1) / wd : Nat)) ∧ Below w.heap.size w w' := by
  have hr : ((m : Int) + wd - 1).tdiv wd = (((m + wd - 1) / wd : Nat) : Int) := by
    rw [Int.tdiv_eq_ediv_of_nonneg (by omega)]
    rw [show (m : Int) + wd - 1 = ((m + wd - 1 : Nat) : Int) by omega]
    push_cast
    rfl
  have hq : (m + wd - 1) / wd ≤ m + wd - 1 := Nat.div_le_self _ _
  have hne : (wd : Int) ≠ 0 := by omega
  have hm1 : (wd : Int) ≠ -1 := by omega
  go_enter Try.func84, Try.ntmps84
  go_wp2_with fail
  go_ret
  exact ⟨by rw [← blocks_e hm hw hw']; rfl, (Below.refl _ _).alloc (Nat.le_refl _) _⟩
set_option maxHeartbeats 1000000 in
theorem digit_any (b : UInt8) : Calls Try.prog 87 #[u8V b] w fun e w' => e = .returned (.bool (isDig b)) ∧ w = w' := by
  by_cases h1 : 48 ≤ (b.toNat : Int)
  · have hF : isDig b = decide ((b.toNat : Int) ≤ 57) := by unfold isDig; exact decide_eq_decide.2 (by omega)
    go_enter Try.func87, Try.ntmps87
    go_wp2
    go_ret
    exact ⟨by rw [hF]; rfl, rfl⟩
  · have hd : decide (48 ≤ (b.toNat : Int)) = false := by simpa using h1
    go_enter Try.func87, Try.ntmps87
    go_wp2
    go_ret
    exact ⟨by rw [show isDig b = false from by unfold isDig; exact decide_eq_false (by omega)]; rfl, rfl⟩
end
end Go.Proofs.YtmdlmmfbcnkanaaR
namespace Go.Proofs.YtmdlmmfbcnkanaaR
open Go.RowKit
section
variable {α : Type}
/-- The first that is not right. -/
def badAt (ok : α → Bool) (l : List α) : Int := match l.findIdx? (fun s => !ok s) with | some i => i | none => -1
theorem good_succ {ok : α → Bool} {l : List α} {k : Nat} (hk : k < l.length) (hg : ∀ j s, j < k → l[j]? = some s → ok s = true) (h : ok l[k] = true) :
    ∀ j s, j < k + 1 → l[j]? = some s → ok s = true := by
  intro j s hj hs
  by_cases e : j = k
  · subst e
    rw [List.getElem?_eq_getElem hk] at hs
    cases hs
    exact h
  · exact hg j s (by omega) hs
theorem badAt_bad {ok : α → Bool} {l : List α} {k : Nat} (hk : k < l.length) (hg : ∀ j s, j < k → l[j]? = some s → ok s = true) (h : ok l[k] = false) : badAt ok l = k := by
  unfold badAt
  have : l.findIdx? (fun s => !ok s) = some k := by
    rw [List.findIdx?_eq_some_iff_getElem]
    refine ⟨hk, by simp [h], fun j hj => ?_⟩
    have := hg j l[j] hj (List.getElem?_eq_getElem (by omega))
    simp [this]
  rw [this]
theorem badAt_none {ok : α → Bool} {l : List α} {k : Nat} (hk : l.length ≤ k) (hg : ∀ j s, j < k → l[j]? = some s → ok s = true) : badAt ok l = -1 := by
  unfold badAt
  have : l.findIdx? (fun s => !ok s) = none := by
    rw [List.findIdx?_eq_none_iff]
    intro s hs
    obtain ⟨j, hj, rfl⟩ := List.mem_iff_getElem.1 hs
    have := hg j l[j] (by omega) (List.getElem?_eq_getElem hj)
    simp [this]
  rw [this]
theorem badAt_all (ok : α → Bool) (l : List α) : decide (0 ≤ badAt ok l) = !l.all ok := by
  unfold badAt
  cases h : l.findIdx? (fun s => !ok s) with
  | none =>
    rw [List.findIdx?_eq_none_iff] at h
    have : l.all ok = true := List.all_eq_true.2 fun s hs => by simpa using h s hs
    simp [this]
  | some i =>
    rw [List.findIdx?_eq_some_iff_getElem] at h
    obtain ⟨hi, hb, _⟩ := h
    have : l.all ok = false := by
      rw [List.all_eq_false]
      exact ⟨l[i], List.getElem_mem hi, by simpa using hb⟩
    simp [this]
end
abbrev okR (n : Int) : Bool := inR n 0 99
set_option maxHeartbeats 400000 in
theorem notReading_any (pr : Nat) (n : Int) (w : World) (hp : w.cell? ⟨pr, 0, none⟩ = some (.func (.func 43) #[] #[])) :
    Calls Try.prog 77 #[.int .i64 n, .pointer (some ⟨pr, 0, none⟩)] w fun e w' => e = .returned (.bool (!okR n)) ∧ w = w' := by
  go_enter Try.func77, Try.ntmps77
  go_wp2_with (go_at_call 43; refine (reading_any n _).mono ?_; rintro e w' ⟨rfl, rfl⟩)
  go_ret
  exact ⟨rfl, rfl⟩
set_option maxHeartbeats 400000 in
theorem indexBad_any (pr : Nat) (A : Option Addr) (l : List Int) (c : Nat) (w : World) (hl : l.length ≤ 1000000)
    (hp : w.cell? ⟨pr, 0, none⟩ = some (.func (.func 43) #[] #[])) (hs : IntsAt w w.heap.size A l) :
    Calls Try.prog 95 #[.slice A l.length c, .func (.func 77) #[] #[.pointer (some ⟨pr, 0, none⟩)]] w
      fun e w' => e = .returned (.int .i64 (badAt okR l)) ∧ w = w' := by
  have Hp := Lib.hid hp
  have Hs := Lib.hid hs
  clear hp hs
  go_enter Try.func95, Try.ntmps95
  go_wp2
  go_loop [8] (fun i => ∃ k : Nat, k ≤ l.length ∧ i = .int .i64 k ∧ (∀ j s, j < k → l[j]? = some s → okR s = true)) (fun i => l.length - (intOf i).toNat)
  case atStart => exact ⟨0, Nat.zero_le _, rfl, by omega⟩
  case round =>
    obtain ⟨k, hk, rfl, hgood⟩ := hrel
    by_cases hlt' : k < l.length
    · obtain ⟨b, off, rfl, hbB, c0⟩ := Hs.out k l[k] (List.getElem?_eq_getElem hlt')
      have HG := Lib.hid hgood
      clear hgood
      go_wp2_with fail
      refine (notReading_any pr l[k] _ Hp.out).mono ?_
      rintro e w1 ⟨rfl, rfl⟩
      by_cases hok : okR l[k] = true
      · go_wp2_with fail
        go_round
        case rel => exact ⟨k + 1, by omega, by go_num, good_succ hlt' HG.out hok⟩
        case measure => simp [intOf]; omega
      · have hno : okR l[k] = false := by simpa using hok
        clear hok
        go_wp2_with fail
        go_ret
        exact ⟨by rw [badAt_bad hlt' HG.out hno]; rfl, rfl⟩
    · go_wp2_with fail
      go_ret
      exact ⟨by rw [badAt_none (by omega) hgood]; rfl, rfl⟩
set_option maxHeartbeats 400000 in
theorem containsBad_any (pr : Nat) (A : Option Addr) (l : List Int) (c : Nat) (w : World) (hl : l.length ≤ 1000000)
    (hp : w.cell? ⟨pr, 0, none⟩ = some (.func (.func 43) #[] #[])) (hs : IntsAt w w.heap.size A l) :
    Calls Try.prog 76 #[.slice A l.length c, .func (.func 77) #[] #[.pointer (some ⟨pr, 0, none⟩)]] w
      fun e w' => e = .returned (.bool (!l.all okR)) ∧ w = w' := by
  have Hp := Lib.hid hp
  have Hs := Lib.hid hs
  clear hp hs
  go_enter Try.func76, Try.ntmps76
  go_wp2_with (go_at_call 95; refine (indexBad_any pr A l c _ hl Hp.out Hs.out).mono ?_; rintro e w1 ⟨rfl, rfl⟩)
  go_ret
  exact ⟨by rw [← badAt_all]; rfl, rfl⟩
set_option maxHeartbeats 400000 in
theorem allReadings_any (A : Option Addr) (l : List Int) (c : Nat) (w : World) (hl : l.length ≤ 1000000) (hs : IntsAt w w.heap.size A l) :
    Calls Try.prog 47 #[.slice A l.length c, .func (.func 43) #[] #[]] w
      fun e w' => e = .returned (.bool (l.all okR)) ∧ Below w.heap.size w w' := by
  have Hs := Lib.hid hs
  clear hs
  go_enter Try.func47, Try.ntmps47
  go_wp2_with fail
  refine (containsBad_any w.heap.size A l c _ hl (cell_new1 _ _ _) ((Hs.out.below ((Below.refl _ _).alloc (Nat.le_refl _) _) (Nat.le_refl _)).more (by simp))).mono ?_
  rintro e w1 ⟨rfl, rfl⟩
  go_wp2_with fail
  go_ret
  exact ⟨by simp, ((Below.refl _ _).alloc (Nat.le_refl _) _)⟩
end Go.Proofs.YtmdlmmfbcnkanaaR
namespace Go.Proofs.YtmdlmmfbcnkanaaR
open Go.RowKit Go.Shelf
/-- Are the first k steps right? -/
def nearTo (st : Int) (l : List Int) (k : Nat) : Prop := ∀ j a b, j + 1 < k → l[j]? = some a → l[j + 1]? = some b → nearB b a st = true
theorem nearL_iff (st : Int) : ∀ l : List Int, nearL st l = true ↔ nearTo st l l.length
  | [] => by simp [nearL, nearTo]
  | [x] => by
    simp only [nearL, true_iff]
    intro j a b hj
    simp at hj
  | x :: y :: l => by
    have ih := nearL_iff st (y :: l)
    simp only [nearL, Bool.and_eq_true, ih]
    constructor
    · rintro ⟨h1, h2⟩ j a b hj ha hb
      cases j with
      | zero =>
        simp at ha hb
        subst ha; subst hb
        exact h1
      | succ j => exact h2 j a b (by simp at hj ⊢; omega) (by simpa using ha) (by simpa using hb)
    · intro h
      refine ⟨h 0 x y (by simp) (by simp) (by simp), fun j a b hj ha hb => ?_⟩
      exact h (j + 1) a b (by simp at hj ⊢; omega) (by simpa using ha) (by simpa using hb)
theorem fault_limit {s : Ser} (h : 40 < s.rd.length) : faultS s = 3 := by unfold faultS; rw [if_pos h]
theorem fault_arg {s : Ser} (h : ¬ 40 < s.rd.length) (h1 : headOk s.rd.length s.width s.step = false ∨ s.rd.all okR = false ∨ nearL s.step s.rd = false) : faultS s = 1 := by
  unfold faultS
  rw [if_neg h, if_neg]
  intro h2
  simp only [Bool.and_eq_true] at h2
  obtain ⟨⟨h3, h4⟩, h5⟩ := h2
  rcases h1 with h1 | h1 | h1
  · rw [h3] at h1; cases h1
  · unfold okR at h1; rw [h4] at h1; cases h1
  · rw [h5] at h1; cases h1
theorem fault_ok {s : Ser} (h : ¬ 40 < s.rd.length) (h1 : headOk s.rd.length s.width s.step = true) (h2 : s.rd.all okR = true) (h3 : nearL s.step s.rd = true) : faultS s = 0 := by
  unfold faultS
  rw [if_neg h, if_pos (by simp only [Bool.and_eq_true]; exact ⟨⟨h1, h2⟩, h3⟩)]
theorem headOk_iff {a b c : Int} : headOk a b c = true ↔ (1 ≤ a ∧ a ≤ 40) ∧ (2 ≤ b ∧ b ≤ 8) ∧ 1 ≤ c ∧ c ≤ 9 := by
  simp [headOk, inR_iff, and_assoc]
noncomputable def opsCk10 : Array Oper := (Try.f17.body.bind (regionOf 10)).getD #[]
def wordsCk10 (b1 g o q nl c : Nat) (m wd st x y : Int) : Words := [fun v _ => v = .func (.func 48) #[headV m wd st] #[], fun v _ => v = .pointer (some ⟨b1, 2, none⟩), fun v _ => v = .slice (some ⟨g, o, none⟩) nl c, fun v _ => v = .int .i64 (q : Int), fun v _ => v = .pointer (some ⟨g, o + q, none⟩), fun v _ => v = .int .i64 x, fun v _ => v = .pointer (some ⟨b1, 2, none⟩), fun v _ => v = .slice (some ⟨g, o, none⟩) nl c, fun v _ => v = .int .i64 (q : Int), fun v _ => v = .int .i64 ((q - 1 : Nat) : Int), fun v _ => v = .pointer (some ⟨g, o + (q - 1), none⟩), fun v _ => v = .int .i64 y, fun v _ => v = .bool (nearB x y st), fun v _ => v = .bool (!nearB x y st)]
theorem okCk10_0 {b1 g o q nl c : Nat} {m wd st x y : Int} {a : Act} {w : World} (t1 : a.eval (.tmp 1) = .pointer (some ⟨b1, 0, none⟩)) (t4 : a.eval (.tmp 4) = .func (.func 48) #[headV m wd st] #[]) (t5 : a.eval (.tmp 5) = .int .i64 (q : Int)) (h0 : w.cell? ⟨b1, 2, none⟩ = some (.slice (some ⟨g, o, none⟩) nl c)) (h1 : w.cell? ⟨g, o + q, none⟩ = some (.int .i64 x)) (h2 : w.cell? ⟨g, o + (q - 1), none⟩ = some (.int .i64 y)) (hj : 1 ≤ q) (hjn : q < nl) (hj3 : q < 1000000) (hm' : CV w 48 #[headV m wd st, .int .i64 x, .int .i64 y] (.bool (nearB x y st))) : OpOk Try.prog opsCk10 (wordsCk10 b1 g o q nl c m wd st x y) 47 a w 0 := by
  refine OpOk.gen rfl (fun a1 w1 H => ?_)
  have e4 : a1.eval (.tmp 4) = .func (.func 48) #[headV m wd st] #[] := (H.out 4 (by kernel_rfl)).trans t4
  refine gd_none ?_
  exact OpW.move e4 rfl
theorem okCk10_1 {b1 g o q nl c : Nat} {m wd st x y : Int} {a : Act} {w : World} (t1 : a.eval (.tmp 1) = .pointer (some ⟨b1, 0, none⟩)) (t4 : a.eval (.tmp 4) = .func (.func 48) #[headV m wd st] #[]) (t5 : a.eval (.tmp 5) = .int .i64 (q : Int)) (h0 : w.cell? ⟨b1, 2, none⟩ = some (.slice (some ⟨g, o, none⟩) nl c)) (h1 : w.cell? ⟨g, o + q, none⟩ = some (.int .i64 x)) (h2 : w.cell? ⟨g, o + (q - 1), none⟩ = some (.int .i64 y)) (hj : 1 ≤ q) (hjn : q < nl) (hj3 : q < 1000000) (hm' : CV w 48 #[headV m wd st, .int .i64 x, .int .i64 y] (.bool (nearB x y st))) : OpOk Try.prog opsCk10 (wordsCk10 b1 g o q nl c m wd st x y) 47 a w 1 := by
  refine OpOk.gen rfl (fun a1 w1 H => ?_)
  have e1 : a1.eval (.tmp 1) = .pointer (some ⟨b1, 0, none⟩) := (H.out 1 (by kernel_rfl)).trans t1
  refine gd_none ?_
  exact OpW.field e1 (fa29_2 _) rfl
theorem okCk10_2 {b1 g o q nl c : Nat} {m wd st x y : Int} {a : Act} {w : World} (t1 : a.eval (.tmp 1) = .pointer (some ⟨b1, 0, none⟩)) (t4 : a.eval (.tmp 4) = .func (.func 48) #[headV m wd st] #[]) (t5 : a.eval (.tmp 5) = .int .i64 (q : Int)) (h0 : w.cell? ⟨b1, 2, none⟩ = some (.slice (some ⟨g, o, none⟩) nl c)) (h1 : w.cell? ⟨g, o + q, none⟩ = some (.int .i64 x)) (h2 : w.cell? ⟨g, o + (q - 1), none⟩ = some (.int .i64 y)) (hj : 1 ≤ q) (hjn : q < nl) (hj3 : q < 1000000) (hm' : CV w 48 #[headV m wd st, .int .i64 x, .int .i64 y] (.bool (nearB x y st))) : OpOk Try.prog opsCk10 (wordsCk10 b1 g o q nl c m wd st x y) 47 a w 2 := by
  refine OpOk.gen rfl (fun a1 w1 H => ?_)
  have d1 : a1.eval (.tmp 34) = .pointer (some ⟨b1, 2, none⟩) := H.dep 1 34 rfl (by kernel_rfl)
  refine gd_none ?_
  exact OpW.load d1 (ld22 (H.cell h0)) rfl
theorem okCk10_3 {b1 g o q nl c : Nat} {m wd st x y : Int} {a : Act} {w : World} (t1 : a.eval (.tmp 1) = .pointer (some ⟨b1, 0, none⟩)) (t4 : a.eval (.tmp 4) = .func (.func 48) #[headV m wd st] #[]) (t5 : a.eval (.tmp 5) = .int .i64 (q : Int)) (h0 : w.cell? ⟨b1, 2, none⟩ = some (.slice (some ⟨g, o, none⟩) nl c)) (h1 : w.cell? ⟨g, o + q, none⟩ = some (.int .i64 x)) (h2 : w.cell? ⟨g, o + (q - 1), none⟩ = some (.int .i64 y)) (hj : 1 ≤ q) (hjn : q < nl) (hj3 : q < 1000000) (hm' : CV w 48 #[headV m wd st, .int .i64 x, .int .i64 y] (.bool (nearB x y st))) : OpOk Try.prog opsCk10 (wordsCk10 b1 g o q nl c m wd st x y) 47 a w 3 := by
  refine OpOk.gen rfl (fun a1 w1 H => ?_)
  have e5 : a1.eval (.tmp 5) = .int .i64 (q : Int) := (H.out 5 (by kernel_rfl)).trans t5
  refine gd_none ?_
  exact OpW.move e5 rfl
theorem okCk10_4 {b1 g o q nl c : Nat} {m wd st x y : Int} {a : Act} {w : World} (t1 : a.eval (.tmp 1) = .pointer (some ⟨b1, 0, none⟩)) (t4 : a.eval (.tmp 4) = .func (.func 48) #[headV m wd st] #[]) (t5 : a.eval (.tmp 5) = .int .i64 (q : Int)) (h0 : w.cell? ⟨b1, 2, none⟩ = some (.slice (some ⟨g, o, none⟩) nl c)) (h1 : w.cell? ⟨g, o + q, none⟩ = some (.int .i64 x)) (h2 : w.cell? ⟨g, o + (q - 1), none⟩ = some (.int .i64 y)) (hj : 1 ≤ q) (hjn : q < nl) (hj3 : q < 1000000) (hm' : CV w 48 #[headV m wd st, .int .i64 x, .int .i64 y] (.bool (nearB x y st))) : OpOk Try.prog opsCk10 (wordsCk10 b1 g o q nl c m wd st x y) 47 a w 4 := by
  refine OpOk.gen rfl (fun a1 w1 H => ?_)
  have d2 : a1.eval (.tmp 35) = .slice (some ⟨g, o, none⟩) nl c := H.dep 2 35 rfl (by kernel_rfl)
  have d3 : a1.eval (.tmp 36) = .int .i64 (q : Int) := H.dep 3 36 rfl (by kernel_rfl)
  refine gd_none ?_
  exact OpW.index d2 d3 (ix22 hjn _) rfl
theorem okCk10_5 {b1 g o q nl c : Nat} {m wd st x y : Int} {a : Act} {w : World} (t1 : a.eval (.tmp 1) = .pointer (some ⟨b1, 0, none⟩)) (t4 : a.eval (.tmp 4) = .func (.func 48) #[headV m wd st] #[]) (t5 : a.eval (.tmp 5) = .int .i64 (q : Int)) (h0 : w.cell? ⟨b1, 2, none⟩ = some (.slice (some ⟨g, o, none⟩) nl c)) (h1 : w.cell? ⟨g, o + q, none⟩ = some (.int .i64 x)) (h2 : w.cell? ⟨g, o + (q - 1), none⟩ = some (.int .i64 y)) (hj : 1 ≤ q) (hjn : q < nl) (hj3 : q < 1000000) (hm' : CV w 48 #[headV m wd st, .int .i64 x, .int .i64 y] (.bool (nearB x y st))) : OpOk Try.prog opsCk10 (wordsCk10 b1 g o q nl c m wd st x y) 47 a w 5 := by
  refine OpOk.gen rfl (fun a1 w1 H => ?_)
  have d4 : a1.eval (.tmp 37) = .pointer (some ⟨g, o + q, none⟩) := H.dep 4 37 rfl (by kernel_rfl)
  refine gd_none ?_
  exact OpW.load d4 (ld3 (H.cell h1)) rfl
theorem okCk10_6 {b1 g o q nl c : Nat} {m wd st x y : Int} {a : Act} {w : World} (t1 : a.eval (.tmp 1) = .pointer (some ⟨b1, 0, none⟩)) (t4 : a.eval (.tmp 4) = .func (.func 48) #[headV m wd st] #[]) (t5 : a.eval (.tmp 5) = .int .i64 (q : Int)) (h0 : w.cell? ⟨b1, 2, none⟩ = some (.slice (some ⟨g, o, none⟩) nl c)) (h1 : w.cell? ⟨g, o + q, none⟩ = some (.int .i64 x)) (h2 : w.cell? ⟨g, o + (q - 1), none⟩ = some (.int .i64 y)) (hj : 1 ≤ q) (hjn : q < nl) (hj3 : q < 1000000) (hm' : CV w 48 #[headV m wd st, .int .i64 x, .int .i64 y] (.bool (nearB x y st))) : OpOk Try.prog opsCk10 (wordsCk10 b1 g o q nl c m wd st x y) 47 a w 6 := by
  refine OpOk.gen rfl (fun a1 w1 H => ?_)
  have e1 : a1.eval (.tmp 1) = .pointer (some ⟨b1, 0, none⟩) := (H.out 1 (by kernel_rfl)).trans t1
  refine gd_none ?_
  exact OpW.field e1 (fa29_2 _) rfl
theorem okCk10_7 {b1 g o q nl c : Nat} {m wd st x y : Int} {a : Act} {w : World} (t1 : a.eval (.tmp 1) = .pointer (some ⟨b1, 0, none⟩)) (t4 : a.eval (.tmp 4) = .func (.func 48) #[headV m wd st] #[]) (t5 : a.eval (.tmp 5) = .int .i64 (q : Int)) (h0 : w.cell? ⟨b1, 2, none⟩ = some (.slice (some ⟨g, o, none⟩) nl c)) (h1 : w.cell? ⟨g, o + q, none⟩ = some (.int .i64 x)) (h2 : w.cell? ⟨g, o + (q - 1), none⟩ = some (.int .i64 y)) (hj : 1 ≤ q) (hjn : q < nl) (hj3 : q < 1000000) (hm' : CV w 48 #[headV m wd st, .int .i64 x, .int .i64 y] (.bool (nearB x y st))) : OpOk Try.prog opsCk10 (wordsCk10 b1 g o q nl c m wd st x y) 47 a w 7 := by
  refine OpOk.gen rfl (fun a1 w1 H => ?_)
  have d6 : a1.eval (.tmp 39) = .pointer (some ⟨b1, 2, none⟩) := H.dep 6 39 rfl (by kernel_rfl)
  refine gd_none ?_
  exact OpW.load d6 (ld22 (H.cell h0)) rfl
theorem okCk10_8 {b1 g o q nl c : Nat} {m wd st x y : Int} {a : Act} {w : World} (t1 : a.eval (.tmp 1) = .pointer (some ⟨b1, 0, none⟩)) (t4 : a.eval (.tmp 4) = .func (.func 48) #[headV m wd st] #[]) (t5 : a.eval (.tmp 5) = .int .i64 (q : Int)) (h0 : w.cell? ⟨b1, 2, none⟩ = some (.slice (some ⟨g, o, none⟩) nl c)) (h1 : w.cell? ⟨g, o + q, none⟩ = some (.int .i64 x)) (h2 : w.cell? ⟨g, o + (q - 1), none⟩ = some (.int .i64 y)) (hj : 1 ≤ q) (hjn : q < nl) (hj3 : q < 1000000) (hm' : CV w 48 #[headV m wd st, .int .i64 x, .int .i64 y] (.bool (nearB x y st))) : OpOk Try.prog opsCk10 (wordsCk10 b1 g o q nl c m wd st x y) 47 a w 8 := by
  refine OpOk.gen rfl (fun a1 w1 H => ?_)
  have e5 : a1.eval (.tmp 5) = .int .i64 (q : Int) := (H.out 5 (by kernel_rfl)).trans t5
  refine gd_none ?_
  exact OpW.move e5 rfl
theorem okCk10_9 {b1 g o q nl c : Nat} {m wd st x y : Int} {a : Act} {w : World} (t1 : a.eval (.tmp 1) = .pointer (some ⟨b1, 0, none⟩)) (t4 : a.eval (.tmp 4) = .func (.func 48) #[headV m wd st] #[]) (t5 : a.eval (.tmp 5) = .int .i64 (q : Int)) (h0 : w.cell? ⟨b1, 2, none⟩ = some (.slice (some ⟨g, o, none⟩) nl c)) (h1 : w.cell? ⟨g, o + q, none⟩ = some (.int .i64 x)) (h2 : w.cell? ⟨g, o + (q - 1), none⟩ = some (.int .i64 y)) (hj : 1 ≤ q) (hjn : q < nl) (hj3 : q < 1000000) (hm' : CV w 48 #[headV m wd st, .int .i64 x, .int .i64 y] (.bool (nearB x y st))) : OpOk Try.prog opsCk10 (wordsCk10 b1 g o q nl c m wd st x y) 47 a w 9 := by
  refine OpOk.gen rfl (fun a1 w1 H => ?_)
  have d8 : a1.eval (.tmp 41) = .int .i64 (q : Int) := H.dep 8 41 rfl (by kernel_rfl)
  refine gd_none ?_
  exact OpW.bin d8 rfl (sub3n (k := 1) hj hj3 _) rfl
theorem okCk10_10 {b1 g o q nl c : Nat} {m wd st x y : Int} {a : Act} {w : World} (t1 : a.eval (.tmp 1) = .pointer (some ⟨b1, 0, none⟩)) (t4 : a.eval (.tmp 4) = .func (.func 48) #[headV m wd st] #[]) (t5 : a.eval (.tmp 5) = .int .i64 (q : Int)) (h0 : w.cell? ⟨b1, 2, none⟩ = some (.slice (some ⟨g, o, none⟩) nl c)) (h1 : w.cell? ⟨g, o + q, none⟩ = some (.int .i64 x)) (h2 : w.cell? ⟨g, o + (q - 1), none⟩ = some (.int .i64 y)) (hj : 1 ≤ q) (hjn : q < nl) (hj3 : q < 1000000) (hm' : CV w 48 #[headV m wd st, .int .i64 x, .int .i64 y] (.bool (nearB x y st))) : OpOk Try.prog opsCk10 (wordsCk10 b1 g o q nl c m wd st x y) 47 a w 10 := by
  refine OpOk.gen rfl (fun a1 w1 H => ?_)
  have d7 : a1.eval (.tmp 40) = .slice (some ⟨g, o, none⟩) nl c := H.dep 7 40 rfl (by kernel_rfl)
  have d9 : a1.eval (.tmp 42) = .int .i64 ((q - 1 : Nat) : Int) := H.dep 9 42 rfl (by kernel_rfl)
  refine gd_none ?_
  exact OpW.index d7 d9 (ix22 (by omega) _) rfl
theorem okCk10_11 {b1 g o q nl c : Nat} {m wd st x y : Int} {a : Act} {w : World} (t1 : a.eval (.tmp 1) = .pointer (some ⟨b1, 0, none⟩)) (t4 : a.eval (.tmp 4) = .func (.func 48) #[headV m wd st] #[]) (t5 : a.eval (.tmp 5) = .int .i64 (q : Int)) (h0 : w.cell? ⟨b1, 2, none⟩ = some (.slice (some ⟨g, o, none⟩) nl c)) (h1 : w.cell? ⟨g, o + q, none⟩ = some (.int .i64 x)) (h2 : w.cell? ⟨g, o + (q - 1), none⟩ = some (.int .i64 y)) (hj : 1 ≤ q) (hjn : q < nl) (hj3 : q < 1000000) (hm' : CV w 48 #[headV m wd st, .int .i64 x, .int .i64 y] (.bool (nearB x y st))) : OpOk Try.prog opsCk10 (wordsCk10 b1 g o q nl c m wd st x y) 47 a w 11 := by
  refine OpOk.gen rfl (fun a1 w1 H => ?_)
  have d10 : a1.eval (.tmp 43) = .pointer (some ⟨g, o + (q - 1), none⟩) := H.dep 10 43 rfl (by kernel_rfl)
  refine gd_none ?_
  exact OpW.load d10 (ld3 (H.cell h2)) rfl
theorem okCk10_12 {b1 g o q nl c : Nat} {m wd st x y : Int} {a : Act} {w : World} (t1 : a.eval (.tmp 1) = .pointer (some ⟨b1, 0, none⟩)) (t4 : a.eval (.tmp 4) = .func (.func 48) #[headV m wd st] #[]) (t5 : a.eval (.tmp 5) = .int .i64 (q : Int)) (h0 : w.cell? ⟨b1, 2, none⟩ = some (.slice (some ⟨g, o, none⟩) nl c)) (h1 : w.cell? ⟨g, o + q, none⟩ = some (.int .i64 x)) (h2 : w.cell? ⟨g, o + (q - 1), none⟩ = some (.int .i64 y)) (hj : 1 ≤ q) (hjn : q < nl) (hj3 : q < 1000000) (hm' : CV w 48 #[headV m wd st, .int .i64 x, .int .i64 y] (.bool (nearB x y st))) : OpOk Try.prog opsCk10 (wordsCk10 b1 g o q nl c m wd st x y) 47 a w 12 := by
  refine OpOk.gen rfl (fun a1 w1 H => ?_)
  have d5 : a1.eval (.tmp 38) = .int .i64 x := H.dep 5 38 rfl (by kernel_rfl)
  have d11 : a1.eval (.tmp 44) = .int .i64 y := H.dep 11 44 rfl (by kernel_rfl)
  have d0 : a1.eval (.tmp 33) = .func (.func 48) #[headV m wd st] #[] := H.dep 0 33 rfl (by kernel_rfl)
  refine gd_none ?_
  exact OpW.callF (first := #[headV m wd st]) (caps := #[]) (vs := #[.int .i64 x, .int .i64 y]) (enters_of Try.func48 (by kernel_rfl) rfl) d0 (by simp [d5, d11]) (hm' w1 H.low)
theorem okCk10_13 {b1 g o q nl c : Nat} {m wd st x y : Int} {a : Act} {w : World} (t1 : a.eval (.tmp 1) = .pointer (some ⟨b1, 0, none⟩)) (t4 : a.eval (.tmp 4) = .func (.func 48) #[headV m wd st] #[]) (t5 : a.eval (.tmp 5) = .int .i64 (q : Int)) (h0 : w.cell? ⟨b1, 2, none⟩ = some (.slice (some ⟨g, o, none⟩) nl c)) (h1 : w.cell? ⟨g, o + q, none⟩ = some (.int .i64 x)) (h2 : w.cell? ⟨g, o + (q - 1), none⟩ = some (.int .i64 y)) (hj : 1 ≤ q) (hjn : q < nl) (hj3 : q < 1000000) (hm' : CV w 48 #[headV m wd st, .int .i64 x, .int .i64 y] (.bool (nearB x y st))) : OpOk Try.prog opsCk10 (wordsCk10 b1 g o q nl c m wd st x y) 47 a w 13 := by
  refine OpOk.gen rfl (fun a1 w1 H => ?_)
  have d12 : a1.eval (.tmp 45) = .bool (nearB x y st) := H.dep 12 45 rfl (by kernel_rfl)
  refine gd_none ?_
  exact OpW.un d12 (not4 _ _) rfl
theorem regionCk10 {F : Fence} {n : Nat} (hF : WideF F Try.prog) {Q : Exit → Act → World → Prop} {b1 g o q nl c : Nat} {m wd st x y : Int} {a : Act} {w : World} (hsz : a.tmps.size = 47)
    (t1 : a.eval (.tmp 1) = .pointer (some ⟨b1, 0, none⟩)) (t4 : a.eval (.tmp 4) = .func (.func 48) #[headV m wd st] #[]) (t5 : a.eval (.tmp 5) = .int .i64 (q : Int)) (h0 : w.cell? ⟨b1, 2, none⟩ = some (.slice (some ⟨g, o, none⟩) nl c)) (h1 : w.cell? ⟨g, o + q, none⟩ = some (.int .i64 x)) (h2 : w.cell? ⟨g, o + (q - 1), none⟩ = some (.int .i64 y)) (hj : 1 ≤ q) (hjn : q < nl) (hj3 : q < 1000000) (hm' : CV w 48 #[headV m wd st, .int .i64 x, .int .i64 y] (.bool (nearB x y st)))
    (hK : ∀ (a' : Act) (w' : World), a'.tmps.size = 47 → a'.defers = a.defers → Below w.heap.size w w' → (∀ e, ndstB opsCk10 e = true → a'.eval (.tmp e) = a.eval (.tmp e)) → (∀ (j d : Nat), (opsCk10[j]?).bind (·.dst) = some d → (wordsCk10 b1 g o q nl c m wd st x y).at_ j (a'.eval (.tmp d)) w') → Q .normal a' w') :
    (Code.region 10 opsCk10 true).wpIn F n Try.prog Q a w := by
  refine region_S (wordsCk10 b1 g o q nl c m wd st x y) 47 hF (by kernel_rfl) Try.mixed (by kernel_rfl) (by kernel_rfl) ?_ hsz 14 (by kernel_rfl) ?_ hK
  · exact ⟨(fun _ _ _ h _ => h), (fun _ _ _ h _ => h), (fun _ _ _ h _ => h), (fun _ _ _ h _ => h), (fun _ _ _ h _ => h), (fun _ _ _ h _ => h), (fun _ _ _ h _ => h), (fun _ _ _ h _ => h), (fun _ _ _ h _ => h), (fun _ _ _ h _ => h), (fun _ _ _ h _ => h), (fun _ _ _ h _ => h), (fun _ _ _ h _ => h), (fun _ _ _ h _ => h), trivial⟩
  · exact ⟨⟨⟨⟨⟨⟨⟨⟨⟨⟨⟨⟨⟨⟨trivial, okCk10_0 t1 t4 t5 h0 h1 h2 hj hjn hj3 hm'.drew⟩, okCk10_1 t1 t4 t5 h0 h1 h2 hj hjn hj3 hm'.drew⟩, okCk10_2 t1 t4 t5 h0 h1 h2 hj hjn hj3 hm'.drew⟩, okCk10_3 t1 t4 t5 h0 h1 h2 hj hjn hj3 hm'.drew⟩, okCk10_4 t1 t4 t5 h0 h1 h2 hj hjn hj3 hm'.drew⟩, okCk10_5 t1 t4 t5 h0 h1 h2 hj hjn hj3 hm'.drew⟩, okCk10_6 t1 t4 t5 h0 h1 h2 hj hjn hj3 hm'.drew⟩, okCk10_7 t1 t4 t5 h0 h1 h2 hj hjn hj3 hm'.drew⟩, okCk10_8 t1 t4 t5 h0 h1 h2 hj hjn hj3 hm'.drew⟩, okCk10_9 t1 t4 t5 h0 h1 h2 hj hjn hj3 hm'.drew⟩, okCk10_10 t1 t4 t5 h0 h1 h2 hj hjn hj3 hm'.drew⟩, okCk10_11 t1 t4 t5 h0 h1 h2 hj hjn hj3 hm'.drew⟩, okCk10_12 t1 t4 t5 h0 h1 h2 hj hjn hj3 hm'.drew⟩, okCk10_13 t1 t4 t5 h0 h1 h2 hj hjn hj3 hm'.drew⟩
noncomputable def opsCk0 : Array Oper := (Try.f17.body.bind (regionOf 0)).getD #[]
noncomputable def opsCk1 : Array Oper := (Try.f17.body.bind (regionOf 1)).getD #[]
noncomputable def opsCk2 : Array Oper := (Try.f17.body.bind (regionOf 2)).getD #[]
noncomputable def opsCk3 : Array Oper := (Try.f17.body.bind (regionOf 3)).getD #[]
noncomputable def opsCk4 : Array Oper := (Try.f17.body.bind (regionOf 4)).getD #[]
noncomputable def opsCk5 : Array Oper := (Try.f17.body.bind (regionOf 5)).getD #[]
noncomputable def opsCk6 : Array Oper := (Try.f17.body.bind (regionOf 6)).getD #[]
noncomputable def opsCk7 : Array Oper := (Try.f17.body.bind (regionOf 7)).getD #[]
noncomputable def opsCk8 : Array Oper := (Try.f17.body.bind (regionOf 8)).getD #[]
noncomputable def opsCk9 : Array Oper := (Try.f17.body.bind (regionOf 9)).getD #[]
noncomputable def opsCk11 : Array Oper := (Try.f17.body.bind (regionOf 11)).getD #[]
noncomputable def opsCk12 : Array Oper := (Try.f17.body.bind (regionOf 12)).getD #[]
noncomputable def code17 : Code := (.seq (.region 0 opsCk0 false) (.seq (.region 1 opsCk1 false) (.seq (.block 0 (.seq (.region 2 opsCk2 false) (.cond (.tmp 6) (.seq (.region 3 opsCk3 false) .ret) (.seq (.region 4 opsCk4 false) (.cond (.tmp 11) (.seq (.region 5 opsCk5 false) .ret) .skip))))) (.seq (.region 6 opsCk6 false) (.seq (.seq (.region 7 opsCk7 false) (.block 1 (.loop (.seq (.seq (.region 8 opsCk8 false) (.cond (.tmp 30) .skip (.exit 1))) (.seq (.block 2 (.seq (.region 10 opsCk10 true) (.cond (.tmp 46) (.seq (.region 11 opsCk11 false) .ret) .skip))) (.region 9 opsCk9 false)))))) (.seq (.region 12 opsCk12 false) .ret))))))
theorem body17 : Try.f17.body = some code17 := by kernel_rfl
end Go.Proofs.YtmdlmmfbcnkanaaR
namespace Go.Proofs.YtmdlmmfbcnkanaaR
open Go.RowKit Go.Shelf
abbrev EvP (W : World) (v : Value) : Ending → World → Prop := fun e w' => e = .returned v ∧ Below W.heap.size W w'
set_option maxHeartbeats 4000000 in
theorem check_any (s : Ser) (A : Option Addr) (c : Nat) (W : World) (hl : s.rd.length ≤ 1000000) (hs : IntsAt W W.heap.size A s.rd) :
    Calls Try.prog 17 #[serV s A c] W (EvP W (.int .i64 (faultS s))) := by
  refine (callsIn_wide (n := 5)).1 (callsIn_of_wp Try.func17 body17 trivial ?_ rfl)
  obtain ⟨a, ha⟩ : ∃ a : Act, a = { tmps := #[serV s A c] ++ Array.replicate (Try.f17.ntmps - (#[serV s A c] : Array Value).size) undef, defers := [] } := ⟨_, rfl⟩
  have hsz : a.tmps.size = 47 := by rw [ha]; simp [Try.ntmps17]
  have t0 : a.eval (.tmp 0) = serV s A c := by rw [ha]; simp [Act.eval]
  have hd_a : a.defers = [] := by rw [ha]
  rw [← ha]
  clear ha
  unfold code17
  have hret : ∀ (a' : Act) (W' : World) (n : Int), n = faultS s → a'.defers = [] → a'.eval (.tmp 2) = .int .i64 n → Below W.heap.size W W' → bodyPost Try.prog Try.f17 (EvP W (.int .i64 (faultS s))) .ret a' W' := fun a' W' n hn hd h4 hb =>
    bodyPost_ret (v := .int .i64 n) (res1 Try.results17 h4) hd ⟨by rw [hn], hb⟩
  refine wpIn_seq (region_p 2 ?_)
  intro K hK
  refine ListK.box (i := 0) (u := serV s A c) rfl (by simp [t0]) (bx29 W _ _ _ _ _) ?_
  refine ListK.assign (i := 1) (v := .int .i64 0) rfl (by simp) ?_
  refine ListK.done (hK _ _ ?_)
  clear hK K
  have wb := Whole.new W 29 #[.int .i64 s.width, .int .i64 s.step, .slice A s.rd.length c]
  have hB1 : Below W.heap.size W (W.alloc (.cells #[.int .i64 s.width, .int .i64 s.step, .slice A s.rd.length c] 29)) := (Below.refl _ W).alloc (Nat.le_refl _) _
  have hS1 := hB1.size
  generalize hb3 : W.heap.size = b3 at *
  generalize W.alloc (.cells #[.int .i64 s.width, .int .i64 s.step, .slice A s.rd.length c] 29) = W1 at *
  replace hs : IntsAt W1 W1.heap.size A s.rd := (hs.below hB1 (Nat.le_refl _)).more hS1
  refine wpIn_seq (region_p 1 ?_)
  intro K hK
  refine ListK.assign (i := 0) (v := .func (.func 43) #[] #[]) rfl (by simp) ?_
  refine ListK.done (hK _ _ ?_)
  clear hK K
  generalize hA : Act.put _ _ _ = a1
  have hz_a1 : a1.tmps.size = 47 := by rw [← hA]; simp only [size_put, hsz]
  have u1 : a1.eval (.tmp 1) = .pointer (some ⟨b3, 0, none⟩) := by rw [← hA]; exact (by simp [hsz])
  have u3 : a1.eval (.tmp 3) = .func (.func 43) #[] #[] := by rw [← hA]; exact (by simp [hsz])
  have hd_a1 : a1.defers = [] := by rw [← hA]; simp only [defers_put, hd_a]
  clear hA
  refine wpIn_seq (wpIn_block ?_)
  by_cases h8 : 40 < s.rd.length
  · skip
    refine wpIn_seq (region_p 5 ?_)
    intro K hK
    refine ListK.field (i := 0) (u := .pointer (some ⟨b3, 0, none⟩)) (v := .pointer (some ⟨b3, 2, none⟩)) rfl (by simp [u1]) (fa29_2 _) ?_
    refine ListK.load (i := 1) (p := ⟨b3, 2, none⟩) (v := .slice A s.rd.length c) rfl (by simp [hz_a1]) (ld22 (wb.cell 2)) ?_
    refine ListK.len (i := 2) (u := .slice A s.rd.length c) (v := .int .i64 s.rd.length) rfl (by simp [hz_a1]) (ln22 _ _ _ _ _) rfl ?_
    refine ListK.bin (i := 3) (u := .int .i64 s.rd.length) (u' := .int .i64 40) (v := .bool true) rfl (by simp [hz_a1]) (by simp) (gtrT3 (by omega) _) ?_
    refine ListK.assign (i := 4) (v := .bool true) rfl (by simp [hz_a1]) ?_
    refine ListK.done (hK _ _ ?_)
    clear hK K
    refine wpIn_cond (t := true) (by simp [hz_a1]) ?_
    generalize hA : Act.put _ _ _ = a2
    have hz_a2 : a2.tmps.size = 47 := by rw [← hA]; simp only [size_put, hz_a1]
    have v1 : a2.eval (.tmp 1) = .pointer (some ⟨b3, 0, none⟩) := by rw [← hA]; exact (by simp [u1])
    have hd_a2 : a2.defers = [] := by rw [← hA]; simp only [defers_put, hd_a1]
    clear hA
    refine wpIn_seq (region_p 1 ?_)
    intro K hK
    refine ListK.assign (i := 0) (v := .int .i64 3) rfl (by simp) ?_
    refine ListK.done (hK _ _ (wpIn_ret ?_))
    exact hret _ _ 3 (fault_limit h8).symm (by simp only [defers_put, hd_a2]) (by simp [hz_a2]) hB1
  · skip
    refine wpIn_seq (region_p 5 ?_)
    intro K hK
    refine ListK.field (i := 0) (u := .pointer (some ⟨b3, 0, none⟩)) (v := .pointer (some ⟨b3, 2, none⟩)) rfl (by simp [u1]) (fa29_2 _) ?_
    refine ListK.load (i := 1) (p := ⟨b3, 2, none⟩) (v := .slice A s.rd.length c) rfl (by simp [hz_a1]) (ld22 (wb.cell 2)) ?_
    refine ListK.len (i := 2) (u := .slice A s.rd.length c) (v := .int .i64 s.rd.length) rfl (by simp [hz_a1]) (ln22 _ _ _ _ _) rfl ?_
    refine ListK.bin (i := 3) (u := .int .i64 s.rd.length) (u' := .int .i64 40) (v := .bool false) rfl (by simp [hz_a1]) (by simp) (gtrF3 (by omega) _) ?_
    refine ListK.assign (i := 4) (v := .bool false) rfl (by simp [hz_a1]) ?_
    refine ListK.done (hK _ _ ?_)
    clear hK K
    refine wpIn_cond (t := false) (by simp [hz_a1]) ?_
    generalize hA : Act.put _ _ _ = a2
    have hz_a2 : a2.tmps.size = 47 := by rw [← hA]; simp only [size_put, hz_a1]
    have v1 : a2.eval (.tmp 1) = .pointer (some ⟨b3, 0, none⟩) := by rw [← hA]; exact (by simp [u1])
    have v3 : a2.eval (.tmp 3) = .func (.func 43) #[] #[] := by rw [← hA]; exact (by simp [u3])
    have hd_a2 : a2.defers = [] := by rw [← hA]; simp only [defers_put, hd_a1]
    clear hA
    have hV := valid_any (s.rd.length : Int) s.width s.step
    obtain ⟨hk, hhk⟩ : ∃ b, b = headOk s.rd.length s.width s.step := ⟨_, rfl⟩
    rw [← hhk] at hV
    obtain ⟨ak, hak⟩ : ∃ b, b = s.rd.all okR := ⟨_, rfl⟩
    have hAl := fun W (hs : IntsAt W W.heap.size A s.rd) => allReadings_any A s.rd c W hl hs
    rw [← hak] at hAl
    cases hk with
    | false =>
      refine wpIn_seq (region_p 12 ?_)
      intro K hK
      refine ListK.load (i := 0) (p := ⟨b3, 0, none⟩) (v := .agg #[.int .i64 s.width, .int .i64 s.step, .slice A s.rd.length c]) rfl (by simp [v1]) (ld29 ⟨wb.cell 0, wb.cell 1, wb.cell 2⟩) ?_
      refine ListK.call (i := 1) (vs := #[.agg #[.int .i64 s.width, .int .i64 s.step, .slice A s.rd.length c]]) rfl (enters_of Try.func45 (by kernel_rfl) rfl) (by simp [hz_a2]) (((sHead_any _ _ A _ c W1)).mono ?_)
      rintro _ W2 ⟨rfl, hb_t1⟩
      have hL_t1 := hB1.trans (hb_t1.mono (by have := hB1.size; omega))
      replace hs := (hs.below hb_t1 (Nat.le_refl _)).more hb_t1.size
      replace wb := wb.below hb_t1 wb.lt
      replace hB1 := hL_t1
      refine ⟨_, rfl, ?_⟩
      refine ListK.call (i := 2) (vs := #[(headV s.rd.length s.width s.step)]) rfl (enters_of Try.func46 (by kernel_rfl) rfl) (by simp [hz_a2]) (((hV W2)).mono ?_)
      rintro _ W3 ⟨rfl, hb_t2⟩
      have hL_t2 := hB1.trans (hb_t2.mono (by have := hB1.size; omega))
      replace hs := (hs.below hb_t2 (Nat.le_refl _)).more hb_t2.size
      replace wb := wb.below hb_t2 wb.lt
      replace hB1 := hL_t2
      refine ⟨_, rfl, ?_⟩
      refine ListK.un (i := 3) (u := .bool false) (v := .bool true) rfl (by simp [hz_a2]) (not4 _ _) ?_
      refine ListK.move (i := 4) (v := .bool true) rfl (by simp [hz_a2]) ?_
      refine ListK.passG (i := 5) (e := 16) (b' := true) rfl rfl (by simp [hz_a2]) rfl ?_
      refine ListK.passG (i := 6) (e := 16) (b' := true) rfl rfl (by simp [hz_a2]) rfl ?_
      refine ListK.passG (i := 7) (e := 16) (b' := true) rfl rfl (by simp [hz_a2]) rfl ?_
      refine ListK.passG (i := 8) (e := 16) (b' := true) rfl rfl (by simp [hz_a2]) rfl ?_
      refine ListK.passG (i := 9) (e := 16) (b' := true) rfl rfl (by simp [hz_a2]) rfl ?_
      refine ListK.pick (i := 10) (b := true) (v := .bool true) rfl (by simp [hz_a2]) (by simp) ?_
      refine ListK.assign (i := 11) (v := .bool true) rfl (by simp [hz_a2]) ?_
      refine ListK.done (hK _ _ ?_)
      clear hK K
      refine wpIn_cond (t := true) (by simp [hz_a2]) ?_
      generalize hA : Act.put _ _ _ = a3
      have hz_a3 : a3.tmps.size = 47 := by rw [← hA]; simp only [size_put, hz_a2]
      have y1 : a3.eval (.tmp 1) = .pointer (some ⟨b3, 0, none⟩) := by rw [← hA]; exact (by simp [v1])
      have hd_a3 : a3.defers = [] := by rw [← hA]; simp only [defers_put, hd_a2]
      clear hA
      refine wpIn_seq (region_p 1 ?_)
      intro K hK
      refine ListK.assign (i := 0) (v := .int .i64 1) rfl (by simp) ?_
      refine ListK.done (hK _ _ (wpIn_ret ?_))
      exact hret _ _ 1 (fault_arg h8 (.inl hhk.symm)).symm (by simp only [defers_put, hd_a3]) (by simp [hz_a3]) hB1
    | true =>
      have hh := headOk_iff.1 hhk.symm
      cases ak with
      | false =>
        refine wpIn_seq (region_p 12 ?_)
        intro K hK
        refine ListK.load (i := 0) (p := ⟨b3, 0, none⟩) (v := .agg #[.int .i64 s.width, .int .i64 s.step, .slice A s.rd.length c]) rfl (by simp [v1]) (ld29 ⟨wb.cell 0, wb.cell 1, wb.cell 2⟩) ?_
        refine ListK.call (i := 1) (vs := #[.agg #[.int .i64 s.width, .int .i64 s.step, .slice A s.rd.length c]]) rfl (enters_of Try.func45 (by kernel_rfl) rfl) (by simp [hz_a2]) (((sHead_any _ _ A _ c W1)).mono ?_)
        rintro _ W2 ⟨rfl, hb_t1⟩
        have hL_t1 := hB1.trans (hb_t1.mono (by have := hB1.size; omega))
        replace hs := (hs.below hb_t1 (Nat.le_refl _)).more hb_t1.size
        replace wb := wb.below hb_t1 wb.lt
        replace hB1 := hL_t1
        refine ⟨_, rfl, ?_⟩
        refine ListK.call (i := 2) (vs := #[(headV s.rd.length s.width s.step)]) rfl (enters_of Try.func46 (by kernel_rfl) rfl) (by simp [hz_a2]) (((hV W2)).mono ?_)
        rintro _ W3 ⟨rfl, hb_t2⟩
        have hL_t2 := hB1.trans (hb_t2.mono (by have := hB1.size; omega))
        replace hs := (hs.below hb_t2 (Nat.le_refl _)).more hb_t2.size
        replace wb := wb.below hb_t2 wb.lt
        replace hB1 := hL_t2
        refine ⟨_, rfl, ?_⟩
        refine ListK.un (i := 3) (u := .bool true) (v := .bool false) rfl (by simp [hz_a2]) (not4 _ _) ?_
        refine ListK.move (i := 4) (v := .bool false) rfl (by simp [hz_a2]) ?_
        refine ListK.field (i := 5) (u := .pointer (some ⟨b3, 0, none⟩)) (v := .pointer (some ⟨b3, 2, none⟩)) rfl (by simp [v1]) (fa29_2 _) ?_ (hw := wanted_g (e := 16) (b' := false) rfl (by simp [hz_a2]) rfl)
        refine ListK.load (i := 6) (p := ⟨b3, 2, none⟩) (v := .slice A s.rd.length c) rfl (by simp [hz_a2]) (ld22 (wb.cell 2)) ?_ (hw := wanted_g (e := 16) (b' := false) rfl (by simp [hz_a2]) rfl)
        refine ListK.move (i := 7) (v := .func (.func 43) #[] #[]) rfl (by simp [v3]) ?_ (hw := wanted_g (e := 16) (b' := false) rfl (by simp [hz_a2]) rfl)
        refine ListK.call (i := 8) (vs := #[.slice A s.rd.length c, .func (.func 43) #[] #[]]) rfl (enters_of Try.func47 (by kernel_rfl) rfl) (by simp [hz_a2]) (((hAl W3 hs)).mono ?_) (hw := wanted_g (e := 16) (b' := false) rfl (by simp [hz_a2]) rfl)
        rintro _ W4 ⟨rfl, hb_t3⟩
        have hL_t3 := hB1.trans (hb_t3.mono (by have := hB1.size; omega))
        replace hs := (hs.below hb_t3 (Nat.le_refl _)).more hb_t3.size
        replace wb := wb.below hb_t3 wb.lt
        replace hB1 := hL_t3
        refine ⟨_, rfl, ?_⟩
        refine ListK.un (i := 9) (u := .bool false) (v := .bool true) rfl (by simp [hz_a2]) (not4 _ _) ?_ (hw := wanted_g (e := 16) (b' := false) rfl (by simp [hz_a2]) rfl)
        refine ListK.pick (i := 10) (b := false) (v := .bool true) rfl (by simp [hz_a2]) (by simp [hz_a2]) ?_
        refine ListK.assign (i := 11) (v := .bool true) rfl (by simp [hz_a2]) ?_
        refine ListK.done (hK _ _ ?_)
        clear hK K
        refine wpIn_cond (t := true) (by simp [hz_a2]) ?_
        generalize hA : Act.put _ _ _ = a3
        have hz_a3 : a3.tmps.size = 47 := by rw [← hA]; simp only [size_put, hz_a2]
        have y1 : a3.eval (.tmp 1) = .pointer (some ⟨b3, 0, none⟩) := by rw [← hA]; exact (by simp [v1])
        have hd_a3 : a3.defers = [] := by rw [← hA]; simp only [defers_put, hd_a2]
        clear hA
        refine wpIn_seq (region_p 1 ?_)
        intro K hK
        refine ListK.assign (i := 0) (v := .int .i64 1) rfl (by simp) ?_
        refine ListK.done (hK _ _ (wpIn_ret ?_))
        exact hret _ _ 1 (fault_arg h8 (.inr (.inl hak.symm))).symm (by simp only [defers_put, hd_a3]) (by simp [hz_a3]) hB1
      | true =>
        refine wpIn_seq (region_p 12 ?_)
        intro K hK
        refine ListK.load (i := 0) (p := ⟨b3, 0, none⟩) (v := .agg #[.int .i64 s.width, .int .i64 s.step, .slice A s.rd.length c]) rfl (by simp [v1]) (ld29 ⟨wb.cell 0, wb.cell 1, wb.cell 2⟩) ?_
        refine ListK.call (i := 1) (vs := #[.agg #[.int .i64 s.width, .int .i64 s.step, .slice A s.rd.length c]]) rfl (enters_of Try.func45 (by kernel_rfl) rfl) (by simp [hz_a2]) (((sHead_any _ _ A _ c W1)).mono ?_)
        rintro _ W2 ⟨rfl, hb_t1⟩
        have hL_t1 := hB1.trans (hb_t1.mono (by have := hB1.size; omega))
        replace hs := (hs.below hb_t1 (Nat.le_refl _)).more hb_t1.size
        replace wb := wb.below hb_t1 wb.lt
        replace hB1 := hL_t1
        refine ⟨_, rfl, ?_⟩
        refine ListK.call (i := 2) (vs := #[(headV s.rd.length s.width s.step)]) rfl (enters_of Try.func46 (by kernel_rfl) rfl) (by simp [hz_a2]) (((hV W2)).mono ?_)
        rintro _ W3 ⟨rfl, hb_t2⟩
        have hL_t2 := hB1.trans (hb_t2.mono (by have := hB1.size; omega))
        replace hs := (hs.below hb_t2 (Nat.le_refl _)).more hb_t2.size
        replace wb := wb.below hb_t2 wb.lt
        replace hB1 := hL_t2
        refine ⟨_, rfl, ?_⟩
        refine ListK.un (i := 3) (u := .bool true) (v := .bool false) rfl (by simp [hz_a2]) (not4 _ _) ?_
        refine ListK.move (i := 4) (v := .bool false) rfl (by simp [hz_a2]) ?_
        refine ListK.field (i := 5) (u := .pointer (some ⟨b3, 0, none⟩)) (v := .pointer (some ⟨b3, 2, none⟩)) rfl (by simp [v1]) (fa29_2 _) ?_ (hw := wanted_g (e := 16) (b' := false) rfl (by simp [hz_a2]) rfl)
        refine ListK.load (i := 6) (p := ⟨b3, 2, none⟩) (v := .slice A s.rd.length c) rfl (by simp [hz_a2]) (ld22 (wb.cell 2)) ?_ (hw := wanted_g (e := 16) (b' := false) rfl (by simp [hz_a2]) rfl)
        refine ListK.move (i := 7) (v := .func (.func 43) #[] #[]) rfl (by simp [v3]) ?_ (hw := wanted_g (e := 16) (b' := false) rfl (by simp [hz_a2]) rfl)
        refine ListK.call (i := 8) (vs := #[.slice A s.rd.length c, .func (.func 43) #[] #[]]) rfl (enters_of Try.func47 (by kernel_rfl) rfl) (by simp [hz_a2]) (((hAl W3 hs)).mono ?_) (hw := wanted_g (e := 16) (b' := false) rfl (by simp [hz_a2]) rfl)
        rintro _ W4 ⟨rfl, hb_t3⟩
        have hL_t3 := hB1.trans (hb_t3.mono (by have := hB1.size; omega))
        replace hs := (hs.below hb_t3 (Nat.le_refl _)).more hb_t3.size
        replace wb := wb.below hb_t3 wb.lt
        replace hB1 := hL_t3
        refine ⟨_, rfl, ?_⟩
        refine ListK.un (i := 9) (u := .bool true) (v := .bool false) rfl (by simp [hz_a2]) (not4 _ _) ?_ (hw := wanted_g (e := 16) (b' := false) rfl (by simp [hz_a2]) rfl)
        refine ListK.pick (i := 10) (b := false) (v := .bool false) rfl (by simp [hz_a2]) (by simp [hz_a2]) ?_
        refine ListK.assign (i := 11) (v := .bool false) rfl (by simp [hz_a2]) ?_
        refine ListK.done (hK _ _ ?_)
        clear hK K
        refine wpIn_cond (t := false) (by simp [hz_a2]) (wpIn_skip ?_)
        generalize hA : Act.put _ _ _ = a3
        have hz_a3 : a3.tmps.size = 47 := by rw [← hA]; simp only [size_put, hz_a2]
        have y1 : a3.eval (.tmp 1) = .pointer (some ⟨b3, 0, none⟩) := by rw [← hA]; exact (by simp [v1])
        have hd_a3 : a3.defers = [] := by rw [← hA]; simp only [defers_put, hd_a2]
        clear hA
        have hin : ∀ (j : Nat) (x : Int), s.rd[j]? = some x → 0 ≤ x ∧ x ≤ 99 := fun j x hx => inR_iff.1 (List.all_eq_true.1 hak.symm x (List.mem_of_getElem? hx))
        refine wpIn_seq (region_p 4 ?_)
        intro K hK
        refine ListK.load (i := 0) (p := ⟨b3, 0, none⟩) (v := .agg #[.int .i64 s.width, .int .i64 s.step, .slice A s.rd.length c]) rfl (by simp [y1]) (ld29 ⟨wb.cell 0, wb.cell 1, wb.cell 2⟩) ?_
        refine ListK.call (i := 1) (vs := #[.agg #[.int .i64 s.width, .int .i64 s.step, .slice A s.rd.length c]]) rfl (enters_of Try.func45 (by kernel_rfl) rfl) (by simp [hz_a3]) (((sHead_any _ _ A _ c W4)).mono ?_)
        rintro _ W5 ⟨rfl, hb_t4⟩
        have hL_t4 := hB1.trans (hb_t4.mono (by have := hB1.size; omega))
        replace hs := (hs.below hb_t4 (Nat.le_refl _)).more hb_t4.size
        replace wb := wb.below hb_t4 wb.lt
        replace hB1 := hL_t4
        refine ⟨_, rfl, ?_⟩
        refine ListK.mkB (i := 2) (us := #[headV s.rd.length s.width s.step]) (vs := #[]) (v := .func (.func 48) #[headV s.rd.length s.width s.step] #[]) rfl (by simp [hz_a3]) (by simp) rfl ?_
        refine ListK.assign (i := 3) (v := .func (.func 48) #[headV s.rd.length s.width s.step] #[]) rfl (by simp [hz_a3]) ?_
        refine ListK.done (hK _ _ ?_)
        clear hK K
        generalize hA : Act.put _ _ _ = a4
        have hz_a4 : a4.tmps.size = 47 := by rw [← hA]; simp only [size_put, hz_a3]
        have z1 : a4.eval (.tmp 1) = .pointer (some ⟨b3, 0, none⟩) := by rw [← hA]; exact (by simp [y1])
        have z4 : a4.eval (.tmp 4) = .func (.func 48) #[headV s.rd.length s.width s.step] #[] := by rw [← hA]; exact (by simp [hz_a3])
        have hd_a4 : a4.defers = [] := by rw [← hA]; simp only [defers_put, hd_a3]
        clear hA
        refine wpIn_seq (wpIn_seq (region_p 1 ?_))
        intro K hK
        refine ListK.assign (i := 0) (v := .int .i64 1) rfl (by simp) ?_
        refine ListK.done (hK _ _ ?_)
        clear hK K
        refine wpIn_block (wpIn_loop (fun a W' => ∃ q : Nat, 1 ≤ q ∧ q ≤ s.rd.length ∧ a.tmps.size = 47 ∧ a.defers = [] ∧ a.eval (.tmp 1) = .pointer (some ⟨b3, 0, none⟩) ∧ a.eval (.tmp 4) = .func (.func 48) #[headV s.rd.length s.width s.step] #[] ∧ a.eval (.tmp 5) = .int .i64 (q : Int) ∧ nearTo s.step s.rd q ∧ Below W5.heap.size W5 W') (fun a _ => s.rd.length - (intOf (a.eval (.tmp 5))).toNat)
          ⟨1, Nat.le_refl _, by omega, (by simp only [size_put, hz_a4]), (by simp only [defers_put, hd_a4]), (by simp [z1]), (by simp [z4]), (by simp [hz_a4]), fun j _ _ hj => by omega, Below.refl _ _⟩ ?_)
        rintro b1 W9 ⟨q, hq1, hq, hz_b1, hd_b1, r1, r4, r5, hn, hb⟩
        have wb9 := wb.below hb wb.lt
        have hs9 := (hs.below hb (Nat.le_refl _)).more hb.size
        have hB9 := hB1.trans (hb.mono (by have := hB1.size; omega))
        by_cases hql : q < s.rd.length
        · skip
          refine wpIn_seq (wpIn_seq (region_p 5 ?_))
          intro K hK
          refine ListK.move (i := 0) (v := .int .i64 (q : Int)) rfl (by simp [r5]) ?_
          refine ListK.field (i := 1) (u := .pointer (some ⟨b3, 0, none⟩)) (v := .pointer (some ⟨b3, 2, none⟩)) rfl (by simp [r1]) (fa29_2 _) ?_
          refine ListK.load (i := 2) (p := ⟨b3, 2, none⟩) (v := .slice A s.rd.length c) rfl (by simp [hz_b1]) (ld22 (wb9.cell 2)) ?_
          refine ListK.len (i := 3) (u := .slice A s.rd.length c) (v := .int .i64 s.rd.length) rfl (by simp [hz_b1]) (ln22 _ _ _ _ _) rfl ?_
          refine ListK.bin (i := 4) (u := .int .i64 (q : Int)) (u' := .int .i64 s.rd.length) (v := .bool true) rfl (by simp [hz_b1]) (by simp [hz_b1]) (lssT3 (by omega) _) ?_
          refine ListK.done (hK _ _ ?_)
          clear hK K
          refine wpIn_cond (t := true) (by simp [hz_b1]) (wpIn_skip ?_)
          generalize hA : Act.put _ _ _ = b2
          have hz_b2 : b2.tmps.size = 47 := by rw [← hA]; simp only [size_put, hz_b1]
          have s1 : b2.eval (.tmp 1) = .pointer (some ⟨b3, 0, none⟩) := by rw [← hA]; exact (by simp [r1])
          have s4 : b2.eval (.tmp 4) = .func (.func 48) #[headV s.rd.length s.width s.step] #[] := by rw [← hA]; exact (by simp [r4])
          have s5 : b2.eval (.tmp 5) = .int .i64 (q : Int) := by rw [← hA]; exact (by simp [r5])
          have hd_b2 : b2.defers = [] := by rw [← hA]; simp only [defers_put, hd_b1]
          clear hA
          have e1 : s.rd[q]? = some s.rd[q] := List.getElem?_eq_getElem hql
          have e2 : s.rd[q - 1]? = some s.rd[q - 1] := List.getElem?_eq_getElem (by omega)
          obtain ⟨gb, off, rfl, hgb, c1⟩ := hs9 q _ e1
          obtain ⟨gb', off', he, _, c2⟩ := hs9 (q - 1) _ e2
          cases he
          have i1 := hin _ _ e1
          have i2 := hin _ _ e2
          refine wpIn_seq (wpIn_block (wpIn_seq (regionCk10 (wideF_plain _) hz_b2 s1 s4 s5 (wb9.cell 2) c1 c2 hq1 hql (by omega) (fun W' hb' => (near_any _ _ _ _ _ W' (by omega) (by omega) (by omega) (by omega) (by omega) (by omega)).mono fun e w2 h => ⟨_, h.1, rfl, h.2⟩) ?_)))
          intro b3' W10 hz_b3' hdd hb10 hr hw
          have d1 := (hr 1 (by kernel_rfl)).trans s1
          have d4 := (hr 4 (by kernel_rfl)).trans s4
          have d5 := (hr 5 (by kernel_rfl)).trans s5
          have d46 : b3'.eval (.tmp 46) = .bool (!nearB s.rd[q] s.rd[q - 1] s.step) := hw 13 46 (by kernel_rfl)
          have hd_b3' : b3'.defers = [] := hdd.trans hd_b2
          clear hr hw hdd
          cases hnb : nearB s.rd[q] s.rd[q - 1] s.step with
          | false =>
            rw [hnb] at d46
            refine wpIn_cond (t := true) d46 ?_
            refine wpIn_seq (region_p 1 ?_)
            intro K hK
            refine ListK.assign (i := 0) (v := .int .i64 1) rfl (by simp) ?_
            refine ListK.done (hK _ _ (wpIn_ret ?_))
            refine hret _ _ 1 (fault_arg h8 (.inr (.inr ?_))).symm (by simp only [defers_put, hd_b3']) (by simp [hz_b3']) (hB9.trans (hb10.mono (by have := hB9.size; omega)))
            cases hnl : nearL s.step s.rd with
            | false => rfl
            | true =>
              have := (nearL_iff _ _).1 hnl (q - 1) s.rd[q - 1] s.rd[q] (by omega) e2 (by rw [show q - 1 + 1 = q by omega]; exact e1)
              rw [hnb] at this
              cases this
          | true =>
            rw [hnb] at d46
            refine wpIn_cond (t := false) d46 (wpIn_skip ?_)
            refine region_p 3 ?_
            intro K hK
            refine ListK.move (i := 0) (v := .int .i64 (q : Int)) rfl (by simp [d5]) ?_
            refine ListK.bin (i := 1) (u := .int .i64 (q : Int)) (u' := .int .i64 1) (v := .int .i64 ((q + 1 : Nat) : Int)) rfl (by simp [hz_b3']) (by simp) (add3 (by omega) (by omega) _) ?_
            refine ListK.assign (i := 2) (v := .int .i64 ((q + 1 : Nat) : Int)) rfl (by simp [hz_b3']) ?_
            refine ListK.done (hK _ _ ?_)
            clear hK K
            refine ⟨⟨q + 1, by omega, by omega, (by simp only [size_put, hz_b3']), (by simp only [defers_put, hd_b3']), (by simp [d1]), (by simp [d4]), (by simp [hz_b3']), fun j x y hj hx hy => ?_, hb.trans (hb10.mono hb.size)⟩, ?_⟩
            · by_cases hjq : j + 1 < q
              · exact hn j x y hjq hx hy
              · obtain rfl : j = q - 1 := by omega
                rw [e2] at hx
                rw [show q - 1 + 1 = q by omega, e1] at hy
                cases hx
                cases hy
                exact hnb
            · rw [r5, show (Act.put _ _ _).eval (.tmp 5) = .int .i64 ((q + 1 : Nat) : Int) from (by simp [hz_b3'])]
              simp only [intOf]
              omega
        · skip
          obtain rfl : q = s.rd.length := by omega
          refine wpIn_seq (wpIn_seq (region_p 5 ?_))
          intro K hK
          refine ListK.move (i := 0) (v := .int .i64 (s.rd.length : Int)) rfl (by simp [r5]) ?_
          refine ListK.field (i := 1) (u := .pointer (some ⟨b3, 0, none⟩)) (v := .pointer (some ⟨b3, 2, none⟩)) rfl (by simp [r1]) (fa29_2 _) ?_
          refine ListK.load (i := 2) (p := ⟨b3, 2, none⟩) (v := .slice A s.rd.length c) rfl (by simp [hz_b1]) (ld22 (wb9.cell 2)) ?_
          refine ListK.len (i := 3) (u := .slice A s.rd.length c) (v := .int .i64 s.rd.length) rfl (by simp [hz_b1]) (ln22 _ _ _ _ _) rfl ?_
          refine ListK.bin (i := 4) (u := .int .i64 (s.rd.length : Int)) (u' := .int .i64 s.rd.length) (v := .bool false) rfl (by simp [hz_b1]) (by simp [hz_b1]) (lssF3 (by omega) _) ?_
          refine ListK.done (hK _ _ ?_)
          clear hK K
          refine wpIn_cond (t := false) (by simp [hz_b1]) (wpIn_exit ?_)
          generalize hA : Act.put _ _ _ = b2
          have hz_b2 : b2.tmps.size = 47 := by rw [← hA]; simp only [size_put, hz_b1]
          have s1 : b2.eval (.tmp 1) = .pointer (some ⟨b3, 0, none⟩) := by rw [← hA]; exact (by simp [r1])
          have hd_b2 : b2.defers = [] := by rw [← hA]; simp only [defers_put, hd_b1]
          clear hA
          refine wpIn_seq (region_p 1 ?_)
          intro K hK
          refine ListK.assign (i := 0) (v := .int .i64 0) rfl (by simp) ?_
          refine ListK.done (hK _ _ (wpIn_ret ?_))
          exact hret _ _ 0 (fault_ok h8 hhk.symm hak.symm ((nearL_iff _ _).2 hn)).symm (by simp only [defers_put, hd_b2]) (by simp [hz_b2]) hB9
end Go.Proofs.YtmdlmmfbcnkanaaR
namespace Go.Proofs.YtmdlmmfbcnkanaaR
open Go.RowKit Go.Shelf
theorem bd77 (a b c : Int) (w : World) : (Instr.build 77 #[(0, .int .i64 a), (1, .int .i64 b), (2, .int .i64 c)]).run Try.prog w = .ok (.agg #[.int .i64 a, .int .i64 b, .int .i64 c]) w := by
  go_simp
theorem bd97 (a b : Int) (w : World) : (Instr.build 97 #[(0, .int .u8 a), (1, .int .i64 b)]).run Try.prog w = .ok (.agg #[.int .u8 a, .int .i64 b]) w := by
  go_simp
theorem al77 (w : World) : (Instr.alloc 77 true (.tuple #[])).run Try.prog w = .ok (.pointer (some ⟨w.heap.size, 0, none⟩)) (w.alloc (.cells #[.int .i64 0, .int .i64 0, .int .i64 0] 77)) := by
  go_simp
theorem al97 (w : World) : (Instr.alloc 97 true (.tuple #[])).run Try.prog w = .ok (.pointer (some ⟨w.heap.size, 0, none⟩)) (w.alloc (.cells #[.int .u8 0, .int .i64 0] 97)) := by
  go_simp
theorem st77 {w : World} {b : Nat} {u0 u1 u2 : Value} {x y z : Int} (h : Whole w b 77 #[u0, u1, u2]) : (Instr.storeAt 77 (.pointer (some ⟨b, 0, none⟩)) (.agg #[.int .i64 x, .int .i64 y, .int .i64 z])).run Try.prog w = .ok () (((w.setCell ⟨b, 0, none⟩ (.int .i64 x)).setCell ⟨b, 1, none⟩ (.int .i64 y)).setCell ⟨b, 2, none⟩ (.int .i64 z)) := by
  have h0 : w.cell? ⟨b, 0, none⟩ = some u0 := h.cell 0
  have h1 : w.cell? ⟨b, 1, none⟩ = some u1 := h.cell 1
  have h2 : w.cell? ⟨b, 2, none⟩ = some u2 := h.cell 2
  have f0 := h.frozen 0
  have f1 := h.frozen 1
  have f2 := h.frozen 2
  go_simp
theorem st97 {w : World} {b : Nat} {u0 u1 : Value} {x y : Int} (h : Whole w b 97 #[u0, u1]) : (Instr.storeAt 97 (.pointer (some ⟨b, 0, none⟩)) (.agg #[.int .u8 x, .int .i64 y])).run Try.prog w = .ok () ((w.setCell ⟨b, 0, none⟩ (.int .u8 x)).setCell ⟨b, 1, none⟩ (.int .i64 y)) := by
  have h0 : w.cell? ⟨b, 0, none⟩ = some u0 := h.cell 0
  have h1 : w.cell? ⟨b, 1, none⟩ = some u1 := h.cell 1
  have f0 := h.frozen 0
  have f1 := h.frozen 1
  go_simp
theorem res77 {fn : Func} {k b : Nat} {W : World} {a : Act} {v0 v1 v2 : Value} (h : fn.results = #[.cell k 77]) (he : a.eval (.tmp k) = .pointer (some ⟨b, 0, none⟩)) (hw : Whole W b 77 #[v0, v1, v2]) :
    (results fn a.tmps).run Try.prog W = .ok (.agg #[v0, v1, v2]) W := by
  have he' : a.tmps[k]?.getD undef = .pointer (some ⟨b, 0, none⟩) := by simpa [Act.eval] using he
  have h0 : W.cell? ⟨b, 0, none⟩ = some v0 := hw.cell 0
  have h1 : W.cell? ⟨b, 1, none⟩ = some v1 := hw.cell 1
  have h2 : W.cell? ⟨b, 2, none⟩ = some v2 := hw.cell 2
  simp only [results, h]
  simp [he']
  go_simp
theorem res97 {fn : Func} {k b : Nat} {W : World} {a : Act} {v0 v1 : Value} (h : fn.results = #[.cell k 97]) (he : a.eval (.tmp k) = .pointer (some ⟨b, 0, none⟩)) (hw : Whole W b 97 #[v0, v1]) :
    (results fn a.tmps).run Try.prog W = .ok (.agg #[v0, v1]) W := by
  have he' : a.tmps[k]?.getD undef = .pointer (some ⟨b, 0, none⟩) := by simpa [Act.eval] using he
  have h0 : W.cell? ⟨b, 0, none⟩ = some v0 := hw.cell 0
  have h1 : W.cell? ⟨b, 1, none⟩ = some v1 := hw.cell 1
  simp only [results, h]
  simp [he']
  go_simp
theorem subu8 {x y : Operand} (b : UInt8) (w : World) : (do eqGuard .sub 5 x y (u8V b) (.int .u8 48); binOp .sub 5 (u8V b) (.int .u8 48) : Sem Value).run Try.prog w = .ok (.int .u8 (dig b : Int)) w := by
  have := dig_wrap b
  go_simp
theorem cv53 {n : Int} (h0 : 0 ≤ n) (h : n < 256) (w : World) : (convert 5 3 (.int .u8 n)).run Try.prog w = .ok (.int .i64 n) w := by
  have := IntWalk.i64_in n (by omega)
  go_simp
theorem eql5T {x y : Operand} {m n : Int} (h : m = n) (w : World) : (do eqGuard .eql 5 x y (.int .u8 m) (.int .u8 n); binOp .eql 5 (.int .u8 m) (.int .u8 n) : Sem Value).run Try.prog w = .ok (.bool true) w := by
  subst h
  go_simp
theorem eql5F {x y : Operand} {m n : Int} (h : m ≠ n) (w : World) : (do eqGuard .eql 5 x y (.int .u8 m) (.int .u8 n); binOp .eql 5 (.int .u8 m) (.int .u8 n) : Sem Value).run Try.prog w = .ok (.bool false) w := by
  go_simp
noncomputable def opsRh0 : Array Oper := (Try.f83.body.bind (regionOf 0)).getD #[]
noncomputable def opsRh1 : Array Oper := (Try.f83.body.bind (regionOf 1)).getD #[]
noncomputable def code83 : Code := (.seq (.region 0 opsRh0 false) (.seq (.region 1 opsRh1 true) .ret))
theorem body83 : Try.f83.body = some code83 := by kernel_rfl
section
attribute [local irreducible] AnyK StepK
variable (c0 c1 c2 c3 c4 c5 c6 : UInt8)
set_option maxHeartbeats 400000 in
theorem rHead_any (W : World) : Calls Try.prog 83 #[rV c0 c1 c2 c3 c4 c5 c6] W (EvP W (headV (num2 c1 c2) (dig c3) (dig c4))) := by
  have l3 := dig_lt c3
  have l4 := dig_lt c4
  refine (callsIn_wide (n := 5)).1 (callsIn_of_wp Try.func83 body83 trivial ?_ rfl)
  obtain ⟨a, ha⟩ : ∃ a : Act, a = { tmps := #[rV c0 c1 c2 c3 c4 c5 c6] ++ Array.replicate (Try.f83.ntmps - (#[rV c0 c1 c2 c3 c4 c5 c6] : Array Value).size) undef, defers := [] } := ⟨_, rfl⟩
  have hsz : a.tmps.size = 14 := by rw [ha]; simp [Try.ntmps83]
  have t0 : a.eval (.tmp 0) = rV c0 c1 c2 c3 c4 c5 c6 := by rw [ha]; simp [Act.eval]
  have hd_a : a.defers = [] := by rw [ha]
  rw [← ha]
  clear ha
  unfold code83
  refine wpIn_seq (region_p 2 ?_)
  intro K hK
  refine ListK.box (i := 0) (u := rV c0 c1 c2 c3 c4 c5 c6) rfl (by simp [t0]) (bx83 _ _ _ _ _ _ _ W) ?_
  refine ListK.alloc (i := 1) rfl (al77 _) ?_
  refine ListK.done (hK _ _ ?_)
  clear hK K
  have wb := Whole.new W 83 (r7 c0 c1 c2 c3 c4 c5 c6)
  have hB1 : Below W.heap.size W (W.alloc (.cells (r7 c0 c1 c2 c3 c4 c5 c6) 83)) := (Below.refl _ W).alloc (Nat.le_refl _) _
  generalize hb3 : W.heap.size = b3 at *
  generalize W.alloc (.cells (r7 c0 c1 c2 c3 c4 c5 c6) 83) = W1 at *
  have wg := Whole.new W1 77 #[.int .i64 0, .int .i64 0, .int .i64 0]
  have hb2 : Below W1.heap.size W1 (W1.alloc (.cells #[.int .i64 0, .int .i64 0, .int .i64 0] 77)) := (Below.refl _ W1).alloc (Nat.le_refl _) _
  have hS1 := hB1.size
  have hne : b3 < W1.heap.size := wb.lt
  replace wb := wb.below hb2 wb.lt
  replace hB1 := hB1.trans (hb2.mono (by omega))
  generalize W1.heap.size = g at *
  generalize W1.alloc (.cells #[.int .i64 0, .int .i64 0, .int .i64 0] 77) = W2 at *
  have hne2 : b3 ≠ g := by omega
  generalize hA : Act.put _ _ _ = a1
  have hz_a1 : a1.tmps.size = 14 := by rw [← hA]; simp only [size_put, hsz]
  have u1 : a1.eval (.tmp 1) = .pointer (some ⟨b3, 0, none⟩) := by rw [← hA]; exact (by simp [hsz])
  have u2 : a1.eval (.tmp 2) = .pointer (some ⟨g, 0, none⟩) := by rw [← hA]; exact (by simp [hsz])
  have hd_a1 : a1.defers = [] := by rw [← hA]; simp only [defers_put, hd_a]
  clear hA
  refine wpIn_seq (region_K (KpR (fun w : World => Whole w b3 83 (r7 c0 c1 c2 c3 c4 c5 c6)) (fun _ => false)) (wideF_plain _) (by kernel_rfl) Try.mixed ?_)
  change AnyK _ _ _ _ 12 (Array.replicate 12 false) _ _
  have hR : (fun w : World => Whole w b3 83 (r7 c0 c1 c2 c3 c4 c5 c6)) W2.drew := wb.below ((Below.refl W2.heap.size W2).drew) wb.lt
  refine AnyK.load (i := 0) may_o (p := ⟨b3, 0, none⟩) (v := (rV c0 c1 c2 c3 c4 c5 c6)) (by simp [u1]) (fun w hw => ld83 hw) hR ?_
  refine AnyK.index (i := 2) may_o (u := .pointer (some ⟨b3, 0, none⟩)) (u' := .int .i64 (3)) (v := .pointer (some ⟨b3, 3, none⟩)) (by simp [u1]) (by simp) (fun w => ix83 (i := 3) (by omega) w) hR ?_
  refine AnyK.load (i := 3) may_o (p := ⟨b3, 3, none⟩) (v := (u8V c3)) (by simp [hz_a1]) (fun w hw => ld5 (hw.cell 3)) hR ?_
  refine AnyK.bin (i := 4) may_o (u := (u8V c3)) (u' := .int .u8 48) (v := .int .u8 (dig c3 : Int)) (by simp [hz_a1]) (by simp) (subu8 c3) hR ?_
  refine AnyK.conv (i := 5) may_o (u := .int .u8 (dig c3 : Int)) (v := .int .i64 (dig c3 : Int)) (by simp [hz_a1]) (cv53 (by omega) (by omega)) hR ?_
  refine AnyK.index (i := 6) may_o (u := .pointer (some ⟨b3, 0, none⟩)) (u' := .int .i64 (4)) (v := .pointer (some ⟨b3, 4, none⟩)) (by simp [u1]) (by simp) (fun w => ix83 (i := 4) (by omega) w) hR ?_
  refine AnyK.load (i := 7) may_o (p := ⟨b3, 4, none⟩) (v := (u8V c4)) (by simp [hz_a1]) (fun w hw => ld5 (hw.cell 4)) hR ?_
  refine AnyK.bin (i := 8) may_o (u := (u8V c4)) (u' := .int .u8 48) (v := .int .u8 (dig c4 : Int)) (by simp [hz_a1]) (by simp) (subu8 c4) hR ?_
  refine AnyK.conv (i := 9) may_o (u := .int .u8 (dig c4 : Int)) (v := .int .i64 (dig c4 : Int)) (by simp [hz_a1]) (cv53 (by omega) (by omega)) hR ?_
  refine AnyK.pick1 (i := 1) (by kernel_rfl) ?_
  refine StepK.call (i := 1) (f := 59) (vs := #[(rV c0 c1 c2 c3 c4 c5 c6), .int .i64 (1)]) rfl (enters_of Try.func59 (by kernel_rfl) rfl) rfl (by simp [hz_a1]) ((number1 c0 c1 c2 c3 c4 c5 c6 W2.drew).mono ?_)
  rintro _ W3 ⟨rfl, hb3_⟩
  have hbd := (Below.refl W2.heap.size W2).drew
  have wb3 := (wb.below hbd wb.lt).below hb3_ wb.lt
  have wg3 := (wg.below hbd wg.lt).below hb3_ wg.lt
  have hB3 := hB1.trans ((hbd.trans hb3_).mono (by have := hB1.size; omega))
  replace hR : (fun w : World => Whole w b3 83 (r7 c0 c1 c2 c3 c4 c5 c6)) W3 := wb3
  refine ⟨_, rfl, fun _ _ => hR, ?_⟩
  refine AnyK.bld (i := 10) may_o (ps := #[(0, .int .i64 (num2 c1 c2 : Int)), (1, .int .i64 (dig c3 : Int)), (2, .int .i64 (dig c4 : Int))]) (v := (headV (num2 c1 c2) (dig c3) (dig c4))) (by simp [hz_a1]) (bd77 _ _ _) hR ?_
  refine AnyK.pick1 (i := 11) (by kernel_rfl) ?_
  refine StepK.store (i := 11) (u := .pointer (some ⟨g, 0, none⟩)) (u' := headV (num2 c1 c2) (dig c3) (dig c4)) rfl (by simp [u2]) (by simp [hz_a1]) (st77 wg3) (fun _ hw => ((Whole.far hw (p := ⟨g, 0, none⟩) hne2 _).far (p := ⟨g, 1, none⟩) hne2 _).far (p := ⟨g, 2, none⟩) hne2 _) ?_
  refine AnyK.done (by kernel_rfl) ?_
  refine wpIn_ret ?_
  refine bodyPost_ret (v := headV (num2 c1 c2) (dig c3) (dig c4)) (res77 Try.results83 (by simp [u2]) (((wg3.set 0 (.int .i64 (num2 c1 c2 : Int))).set 1 (.int .i64 (dig c3 : Int))).set 2 (.int .i64 (dig c4 : Int)))) (by simp only [defers_put, hd_a1]) ⟨rfl, ?_⟩
  rw [hb3]
  exact ((hB3.setCell (p := ⟨g, 0, none⟩) (by show b3 ≤ g; omega) _).setCell (p := ⟨g, 1, none⟩) (by show b3 ≤ g; omega) _).setCell (p := ⟨g, 2, none⟩) (by show b3 ≤ g; omega) _
noncomputable def opsNm0 : Array Oper := (Try.f82.body.bind (regionOf 0)).getD #[]
noncomputable def opsNm1 : Array Oper := (Try.f82.body.bind (regionOf 1)).getD #[]
noncomputable def opsNm2 : Array Oper := (Try.f82.body.bind (regionOf 2)).getD #[]
noncomputable def opsNm3 : Array Oper := (Try.f82.body.bind (regionOf 3)).getD #[]
noncomputable def code82 : Code := (.seq (.region 0 opsNm0 false) (.seq (.seq (.region 1 opsNm1 false) (.cond (.tmp 5) (.seq (.region 2 opsNm2 false) .ret) .skip)) (.seq (.region 3 opsNm3 true) .ret)))
theorem body82 : Try.f82.body = some code82 := by kernel_rfl
abbrev nameV (nm : UInt8 × Nat) : Value := .agg #[u8V nm.1, .int .i64 (nm.2 : Int)]
set_option maxHeartbeats 400000 in
theorem name_any (W : World) : Calls Try.prog 82 #[rV c0 c1 c2 c3 c4 c5 c6] W (EvP W (nameV (nameOf [c0, c1, c2, c3, c4, c5, c6]))) := by
  refine (callsIn_wide (n := 5)).1 (callsIn_of_wp Try.func82 body82 trivial ?_ rfl)
  obtain ⟨a, ha⟩ : ∃ a : Act, a = { tmps := #[rV c0 c1 c2 c3 c4 c5 c6] ++ Array.replicate (Try.f82.ntmps - (#[rV c0 c1 c2 c3 c4 c5 c6] : Array Value).size) undef, defers := [] } := ⟨_, rfl⟩
  have hsz : a.tmps.size = 12 := by rw [ha]; simp [Try.ntmps82]
  have t0 : a.eval (.tmp 0) = rV c0 c1 c2 c3 c4 c5 c6 := by rw [ha]; simp [Act.eval]
  have hd_a : a.defers = [] := by rw [ha]
  rw [← ha]
  clear ha
  unfold code82
  refine wpIn_seq (region_p 2 ?_)
  intro K hK
  refine ListK.box (i := 0) (u := rV c0 c1 c2 c3 c4 c5 c6) rfl (by simp [t0]) (bx83 _ _ _ _ _ _ _ W) ?_
  refine ListK.alloc (i := 1) rfl (al97 _) ?_
  refine ListK.done (hK _ _ ?_)
  clear hK K
  have wb := Whole.new W 83 (r7 c0 c1 c2 c3 c4 c5 c6)
  have hB1 : Below W.heap.size W (W.alloc (.cells (r7 c0 c1 c2 c3 c4 c5 c6) 83)) := (Below.refl _ W).alloc (Nat.le_refl _) _
  generalize hb3 : W.heap.size = b3 at *
  generalize W.alloc (.cells (r7 c0 c1 c2 c3 c4 c5 c6) 83) = W1 at *
  have wg := Whole.new W1 97 #[.int .u8 0, .int .i64 0]
  have hb2 : Below W1.heap.size W1 (W1.alloc (.cells #[.int .u8 0, .int .i64 0] 97)) := (Below.refl _ W1).alloc (Nat.le_refl _) _
  have hS1 := hB1.size
  have hne : b3 < W1.heap.size := wb.lt
  replace wb := wb.below hb2 wb.lt
  replace hB1 := hB1.trans (hb2.mono (by omega))
  generalize W1.heap.size = g at *
  generalize W1.alloc (.cells #[.int .u8 0, .int .i64 0] 97) = W2 at *
  have hne2 : b3 ≠ g := by omega
  generalize hA : Act.put _ _ _ = a1
  have hz_a1 : a1.tmps.size = 12 := by rw [← hA]; simp only [size_put, hsz]
  have u1 : a1.eval (.tmp 1) = .pointer (some ⟨b3, 0, none⟩) := by rw [← hA]; exact (by simp [hsz])
  have u2 : a1.eval (.tmp 2) = .pointer (some ⟨g, 0, none⟩) := by rw [← hA]; exact (by simp [hsz])
  have hd_a1 : a1.defers = [] := by rw [← hA]; simp only [defers_put, hd_a]
  clear hA
  by_cases h0 : c0 = 72
  · have e0 : nameOf [c0, c1, c2, c3, c4, c5, c6] = (72, 0) := by simp [nameOf, h0]
    have en : ((c0.toNat : Int)) = 72 := by rw [h0]; rfl
    refine wpIn_seq (wpIn_seq (region_p 3 ?_))
    intro K hK
    refine ListK.index (i := 0) (u := .pointer (some ⟨b3, 0, none⟩)) (u' := .int .i64 0) (v := .pointer (some ⟨b3, 0, none⟩)) rfl (by simp [u1]) (by simp) (ix83 (i := 0) (by omega) _) ?_
    refine ListK.load (i := 1) (p := ⟨b3, 0, none⟩) (v := (u8V c0)) rfl (by simp [hz_a1]) (ld5 (wb.cell 0)) ?_
    refine ListK.bin (i := 2) (u := (u8V c0)) (u' := .int .u8 72) (v := .bool true) rfl (by simp [hz_a1]) (by simp) (eql5T en _) ?_
    refine ListK.done (hK _ _ ?_)
    clear hK K
    refine wpIn_cond (t := true) (by simp [hz_a1]) ?_
    generalize hA : Act.put _ _ _ = a2
    have hz_a2 : a2.tmps.size = 12 := by rw [← hA]; simp only [size_put, hz_a1]
    have v2 : a2.eval (.tmp 2) = .pointer (some ⟨g, 0, none⟩) := by rw [← hA]; exact (by simp [u2])
    have hd_a2 : a2.defers = [] := by rw [← hA]; simp only [defers_put, hd_a1]
    clear hA
    rw [e0]
    refine wpIn_seq (region_p 2 ?_)
    intro K hK
    refine ListK.bld (i := 0) (ps := #[(0, .int .u8 72), (1, .int .i64 0)]) (v := (nameV (72, 0))) rfl (by simp) (bd97 _ _ _) ?_
    refine ListK.store (i := 1) (u := .pointer (some ⟨g, 0, none⟩)) (u' := (nameV (72, 0))) rfl (by simp [v2]) (by simp [hz_a2]) (st97 wg) ?_
    refine ListK.done (hK _ _ (wpIn_ret ?_))
    refine bodyPost_ret (v := nameV (72, 0)) (res97 Try.results82 (by simp [v2]) ((wg.set 0 (u8V 72)).set 1 (.int .i64 0))) (by simp only [defers_put, hd_a2]) ⟨rfl, ?_⟩
    rw [hb3]
    exact (hB1.setCell (p := ⟨g, 0, none⟩) (by show b3 ≤ g; omega) _).setCell (p := ⟨g, 1, none⟩) (by show b3 ≤ g; omega) _
  · have e0 : nameOf [c0, c1, c2, c3, c4, c5, c6] = (c0, num2 c1 c2) := by simp [nameOf, h0]
    have en : ((c0.toNat : Int)) ≠ 72 := fun e => h0 (UInt8.toNat_inj.1 (by have : c0.toNat = 72 := by omega
                                                                            rw [this]; rfl))
    refine wpIn_seq (wpIn_seq (region_p 3 ?_))
    intro K hK
    refine ListK.index (i := 0) (u := .pointer (some ⟨b3, 0, none⟩)) (u' := .int .i64 0) (v := .pointer (some ⟨b3, 0, none⟩)) rfl (by simp [u1]) (by simp) (ix83 (i := 0) (by omega) _) ?_
    refine ListK.load (i := 1) (p := ⟨b3, 0, none⟩) (v := (u8V c0)) rfl (by simp [hz_a1]) (ld5 (wb.cell 0)) ?_
    refine ListK.bin (i := 2) (u := (u8V c0)) (u' := .int .u8 72) (v := .bool false) rfl (by simp [hz_a1]) (by simp) (eql5F en _) ?_
    refine ListK.done (hK _ _ ?_)
    clear hK K
    refine wpIn_cond (t := false) (by simp [hz_a1]) (wpIn_skip ?_)
    generalize hA : Act.put _ _ _ = a2
    have hz_a2 : a2.tmps.size = 12 := by rw [← hA]; simp only [size_put, hz_a1]
    have v1 : a2.eval (.tmp 1) = .pointer (some ⟨b3, 0, none⟩) := by rw [← hA]; exact (by simp [u1])
    have v2 : a2.eval (.tmp 2) = .pointer (some ⟨g, 0, none⟩) := by rw [← hA]; exact (by simp [u2])
    have hd_a2 : a2.defers = [] := by rw [← hA]; simp only [defers_put, hd_a1]
    clear hA
    rw [e0]
    refine wpIn_seq (region_K (KpR (fun w : World => Whole w b3 83 (r7 c0 c1 c2 c3 c4 c5 c6)) (fun _ => false)) (wideF_plain _) (by kernel_rfl) Try.mixed ?_)
    change AnyK _ _ _ _ 6 (Array.replicate 6 false) _ _
    have hR : (fun w : World => Whole w b3 83 (r7 c0 c1 c2 c3 c4 c5 c6)) W2.drew := wb.below ((Below.refl W2.heap.size W2).drew) wb.lt
    refine AnyK.index (i := 0) may_o (u := .pointer (some ⟨b3, 0, none⟩)) (u' := .int .i64 (0)) (v := .pointer (some ⟨b3, 0, none⟩)) (by simp [v1]) (by simp) (fun w => ix83 (i := 0) (by omega) w) hR ?_
    refine AnyK.load (i := 1) may_o (p := ⟨b3, 0, none⟩) (v := (u8V c0)) (by simp [hz_a2]) (fun w hw => ld5 (hw.cell 0)) hR ?_
    refine AnyK.load (i := 2) may_o (p := ⟨b3, 0, none⟩) (v := (rV c0 c1 c2 c3 c4 c5 c6)) (by simp [v1]) (fun w hw => ld83 hw) hR ?_
    refine AnyK.pick1 (i := 3) (by kernel_rfl) ?_
    refine StepK.call (i := 3) (f := 59) (vs := #[(rV c0 c1 c2 c3 c4 c5 c6), .int .i64 (1)]) rfl (enters_of Try.func59 (by kernel_rfl) rfl) rfl (by simp [hz_a2]) ((number1 c0 c1 c2 c3 c4 c5 c6 W2.drew).mono ?_)
    rintro _ W3 ⟨rfl, hb3_⟩
    have hbd := (Below.refl W2.heap.size W2).drew
    have wb3 := (wb.below hbd wb.lt).below hb3_ wb.lt
    have wg3 := (wg.below hbd wg.lt).below hb3_ wg.lt
    have hB3 := hB1.trans ((hbd.trans hb3_).mono (by have := hB1.size; omega))
    replace hR : (fun w : World => Whole w b3 83 (r7 c0 c1 c2 c3 c4 c5 c6)) W3 := wb3
    refine ⟨_, rfl, fun _ _ => hR, ?_⟩
    refine AnyK.bld (i := 4) may_o (ps := #[(0, (u8V c0)), (1, .int .i64 (num2 c1 c2 : Int))]) (v := (nameV (c0, num2 c1 c2))) (by simp [hz_a2]) (bd97 _ _) hR ?_
    refine AnyK.pick1 (i := 5) (by kernel_rfl) ?_
    refine StepK.store (i := 5) (u := .pointer (some ⟨g, 0, none⟩)) (u' := nameV (c0, num2 c1 c2)) rfl (by simp [v2]) (by simp [hz_a2]) (st97 wg3) (fun _ hw => (Whole.far hw (p := ⟨g, 0, none⟩) hne2 _).far (p := ⟨g, 1, none⟩) hne2 _) ?_
    refine AnyK.done (by kernel_rfl) ?_
    refine wpIn_ret ?_
    refine bodyPost_ret (v := nameV (c0, num2 c1 c2)) (res97 Try.results82 (by simp [v2]) ((wg3.set 0 (u8V c0)).set 1 (.int .i64 (num2 c1 c2 : Int)))) (by simp only [defers_put, hd_a2]) ⟨rfl, ?_⟩
    rw [hb3]
    exact (hB3.setCell (p := ⟨g, 0, none⟩) (by show b3 ≤ g; omega) _).setCell (p := ⟨g, 1, none⟩) (by show b3 ≤ g; omega) _
end
end Go.Proofs.YtmdlmmfbcnkanaaR
namespace Go.Proofs.YtmdlmmfbcnkanaaR
open Go.RowKit Go.Shelf
set_option maxHeartbeats 400000 in
theorem notDigit_any (pr : Nat) (n : UInt8) (w : World) (hp : w.cell? ⟨pr, 0, none⟩ = some (.func (.func 87) #[] #[])) :
    Calls Try.prog 103 #[u8V n, .pointer (some ⟨pr, 0, none⟩)] w fun e w' => e = .returned (.bool (!isDig n)) ∧ w = w' := by
  go_enter Try.func103, Try.ntmps103
  go_wp2_with (go_at_call 87; refine (digit_any _ n).mono ?_; rintro e w' ⟨rfl, rfl⟩)
  go_ret
  exact ⟨rfl, rfl⟩
set_option maxHeartbeats 400000 in
theorem indexDig_any (pr : Nat) (A : Option Addr) (l : List UInt8) (c : Nat) (w : World) (hl : l.length ≤ 1000000)
    (hp : w.cell? ⟨pr, 0, none⟩ = some (.func (.func 87) #[] #[])) (hs : BytesAt w w.heap.size A l) :
    Calls Try.prog 116 #[.slice A l.length c, .func (.func 103) #[] #[.pointer (some ⟨pr, 0, none⟩)]] w
      fun e w' => e = .returned (.int .i64 (badAt isDig l)) ∧ w = w' := by
  have Hp := Lib.hid hp
  have Hs := Lib.hid hs
  clear hp hs
  go_enter Try.func116, Try.ntmps116
  go_wp2
  go_loop [8] (fun i => ∃ k : Nat, k ≤ l.length ∧ i = .int .i64 k ∧ (∀ j s, j < k → l[j]? = some s → isDig s = true)) (fun i => l.length - (intOf i).toNat)
  case atStart => exact ⟨0, Nat.zero_le _, rfl, by omega⟩
  case round =>
    obtain ⟨k, hk, rfl, hgood⟩ := hrel
    by_cases hlt' : k < l.length
    · obtain ⟨b, off, rfl, hbB, c0⟩ := Hs.out k l[k] (List.getElem?_eq_getElem hlt')
      have HG := Lib.hid hgood
      clear hgood
      go_wp2_with fail
      refine (notDigit_any pr l[k] _ Hp.out).mono ?_
      rintro e w1 ⟨rfl, rfl⟩
      by_cases hok : isDig l[k] = true
      · go_wp2_with fail
        go_round
        case rel => exact ⟨k + 1, by omega, by go_num, good_succ hlt' HG.out hok⟩
        case measure => simp [intOf]; omega
      · have hno : isDig l[k] = false := by simpa using hok
        clear hok
        go_wp2_with fail
        go_ret
        exact ⟨by rw [badAt_bad hlt' HG.out hno]; rfl, rfl⟩
    · go_wp2_with fail
      go_ret
      exact ⟨by rw [badAt_none (by omega) hgood]; rfl, rfl⟩
set_option maxHeartbeats 400000 in
theorem containsDig_any (pr : Nat) (A : Option Addr) (l : List UInt8) (c : Nat) (w : World) (hl : l.length ≤ 1000000)
    (hp : w.cell? ⟨pr, 0, none⟩ = some (.func (.func 87) #[] #[])) (hs : BytesAt w w.heap.size A l) :
    Calls Try.prog 102 #[.slice A l.length c, .func (.func 103) #[] #[.pointer (some ⟨pr, 0, none⟩)]] w
      fun e w' => e = .returned (.bool (!l.all isDig)) ∧ w = w' := by
  have Hp := Lib.hid hp
  have Hs := Lib.hid hs
  clear hp hs
  go_enter Try.func102, Try.ntmps102
  go_wp2_with (go_at_call 116; refine (indexDig_any pr A l c _ hl Hp.out Hs.out).mono ?_; rintro e w1 ⟨rfl, rfl⟩)
  go_ret
  exact ⟨by rw [← badAt_all]; rfl, rfl⟩
set_option maxHeartbeats 400000 in
theorem allDigits_any (A : Option Addr) (l : List UInt8) (c : Nat) (w : World) (hl : l.length ≤ 1000000) (hs : BytesAt w w.heap.size A l) :
    Calls Try.prog 89 #[.slice A l.length c, .func (.func 87) #[] #[]] w
      fun e w' => e = .returned (.bool (l.all isDig)) ∧ Below w.heap.size w w' := by
  have Hs := Lib.hid hs
  clear hs
  go_enter Try.func89, Try.ntmps89
  go_wp2_with fail
  refine (containsDig_any w.heap.size A l c _ hl (cell_new1 _ _ _) ((Hs.out.below ((Below.refl _ _).alloc (Nat.le_refl _) _) (Nat.le_refl _)).more (by simp))).mono ?_
  rintro e w1 ⟨rfl, rfl⟩
  go_wp2_with fail
  go_ret
  exact ⟨by simp, ((Below.refl _ _).alloc (Nat.le_refl _) _)⟩

/-- The cells of the kinds. -/
abbrev kindC : Array Value := #[.int .u8 72, .func (.func 90) #[] #[], .int .u8 82, .func (.func 91) #[] #[], .int .u8 80, .func (.func 91) #[] #[]]
set_option maxHeartbeats 400000 in
theorem kinds_any (w : World) : Calls Try.prog 70 #[] w fun e w' => e = .returned (.slice (some ⟨w.heap.size, 0, none⟩) 3 3) ∧ Whole w' w.heap.size 113 kindC ∧ Below w.heap.size w w' := by
  go_enter Try.func70, Try.ntmps70
  go_wp2_with fail
  go_ret
  exact ⟨rfl, Whole.new _ _ _, (Below.refl _ _).alloc (Nat.le_refl _) _⟩
set_option maxHeartbeats 400000 in
theorem isKind_any (rb : Nat) (L : Int) (fv : Value) (c0 : UInt8) (w : World) (hr : w.cell? ⟨rb, 0, none⟩ = some (u8V c0)) :
    Calls Try.prog 88 #[.agg #[.int .u8 L, fv], .pointer (some ⟨rb, 0, none⟩)] w fun e w' => e = .returned (.bool (L == (c0.toNat : Int))) ∧ Below w.heap.size w w' := by
  have hlt : rb < w.heap.size := by have := block_lt_of_cell hr; exact this
  go_enter Try.func88, Try.ntmps88
  go_wp2_with fail
  go_ret
  exact ⟨rfl, (Below.refl _ _).alloc (Nat.le_refl _) _⟩
def kindIx (c0 : UInt8) : Int := if c0 = 72 then 0 else if c0 = 82 then 1 else if c0 = 80 then 2 else -1
theorem u8_ne {c0 : UInt8} {n : Nat} (hn : n < 256) (h : c0 ≠ UInt8.ofNat n) : ((n : Int) == (c0.toNat : Int)) = false := by
  simp only [beq_eq_false_iff_ne, ne_eq]
  intro e
  apply h
  have : c0.toNat = n := by omega
  rw [← this]
  simp
set_option maxHeartbeats 1000000 in
theorem kindAt_any (rb kb : Nat) (c0 : UInt8) (w : World) (hr : w.cell? ⟨rb, 0, none⟩ = some (u8V c0)) (hk : Whole w kb 113 kindC) :
    Calls Try.prog 69 #[.slice (some ⟨kb, 0, none⟩) 3 3, .func (.func 88) #[] #[.pointer (some ⟨rb, 0, none⟩)]] w fun e w' => e = .returned (.int .i64 (kindIx c0)) ∧ Below w.heap.size w w' := by
  have Hr := Lib.hid hr
  have Hk := Lib.hid hk
  have hlr : rb < w.heap.size := by have := block_lt_of_cell hr; exact this
  have hlk := hk.lt
  clear hr hk
  go_enter Try.func69, Try.ntmps69
  go_wp2
  go_loopw [8] (fun i wr => Below w.heap.size w wr ∧ (i = .int .i64 0 ∨ (i = .int .i64 1 ∧ c0 ≠ 72) ∨ (i = .int .i64 2 ∧ c0 ≠ 72 ∧ c0 ≠ 82) ∨ (i = .int .i64 3 ∧ c0 ≠ 72 ∧ c0 ≠ 82 ∧ c0 ≠ 80))) (fun i _ => (3 - intOf i).toNat)
  case atStart => exact ⟨Below.refl _ _, .inl rfl⟩
  case round =>
    obtain ⟨hb, hrel⟩ := hrel
    have hr' := (hb.cell (p := ⟨rb, 0, none⟩) hlr).trans Hr.out
    have hk' := Hk.out.below hb hlk
    have k0 : wr.cell? ⟨kb, 0, none⟩ = some (.int .u8 72) := hk'.cell 0
    have k1 : wr.cell? ⟨kb, 1, none⟩ = some (.func (.func 90) #[] #[]) := hk'.cell 1
    have k2 : wr.cell? ⟨kb, 2, none⟩ = some (.int .u8 82) := hk'.cell 2
    have k3 : wr.cell? ⟨kb, 3, none⟩ = some (.func (.func 91) #[] #[]) := hk'.cell 3
    have k4 : wr.cell? ⟨kb, 4, none⟩ = some (.int .u8 80) := hk'.cell 4
    have k5 : wr.cell? ⟨kb, 5, none⟩ = some (.func (.func 91) #[] #[]) := hk'.cell 5
    have HB := Lib.hid hb
    have HR := Lib.hid hr'
    clear hb hk' hr'
    rcases hrel with rfl | ⟨rfl, h1⟩ | ⟨rfl, h1, h2⟩ | ⟨rfl, h1, h2, h3⟩
    · go_wp2_with fail
      refine (isKind_any rb 72 _ c0 _ HR.out).mono ?_
      rintro e w1 ⟨rfl, hb1⟩
      by_cases h : c0 = 72
      · subst h
        rw [show ((72 : Int) == ((72 : UInt8).toNat : Int)) = true from rfl]
        go_wp2_with fail
        go_ret
        exact ⟨rfl, HB.out.trans (hb1.mono HB.out.size)⟩
      · rw [show ((72 : Int) == (c0.toNat : Int)) = false from u8_ne (n := 72) (by omega) h]
        go_wp2_with fail
        go_roundw
        case rel => exact ⟨HB.out.trans (hb1.mono HB.out.size), .inr (.inl ⟨rfl, h⟩)⟩
        case measure => simp [intOf]
    · go_wp2_with fail
      refine (isKind_any rb 82 _ c0 _ HR.out).mono ?_
      rintro e w1 ⟨rfl, hb1⟩
      by_cases h : c0 = 82
      · subst h
        rw [show ((82 : Int) == ((82 : UInt8).toNat : Int)) = true from rfl]
        go_wp2_with fail
        go_ret
        exact ⟨rfl, HB.out.trans (hb1.mono HB.out.size)⟩
      · rw [show ((82 : Int) == (c0.toNat : Int)) = false from u8_ne (n := 82) (by omega) h]
        go_wp2_with fail
        go_roundw
        case rel => exact ⟨HB.out.trans (hb1.mono HB.out.size), .inr (.inr (.inl ⟨rfl, h1, h⟩))⟩
        case measure => simp [intOf]
    · go_wp2_with fail
      refine (isKind_any rb 80 _ c0 _ HR.out).mono ?_
      rintro e w1 ⟨rfl, hb1⟩
      by_cases h : c0 = 80
      · subst h
        rw [show ((80 : Int) == ((80 : UInt8).toNat : Int)) = true from rfl]
        go_wp2_with fail
        go_ret
        exact ⟨rfl, HB.out.trans (hb1.mono HB.out.size)⟩
      · rw [show ((80 : Int) == (c0.toNat : Int)) = false from u8_ne (n := 80) (by omega) h]
        go_wp2_with fail
        go_roundw
        case rel => exact ⟨HB.out.trans (hb1.mono HB.out.size), .inr (.inr (.inr ⟨rfl, h1, h2, h⟩))⟩
        case measure => simp [intOf]
    · have hF : kindIx c0 = -1 := by simp [kindIx, h1, h2, h3]
      go_wp2_with fail
      go_ret
      exact ⟨by rw [hF]; rfl, HB.out⟩
set_option maxHeartbeats 1000000 in
theorem heads_any (c0 c1 c2 c3 c4 c5 c6 : UInt8) (w : World) : Calls Try.prog 90 #[rV c0 c1 c2 c3 c4 c5 c6] w fun e w' => e = .returned (.bool (headOk (num2 c1 c2) (dig c3) (dig c4))) ∧ Below w.heap.size w w' := by
  have hB : Below w.heap.size w (w.alloc (.cells (r7 c0 c1 c2 c3 c4 c5 c6) 83)) := (Below.refl _ _).alloc (Nat.le_refl _) _
  have HB := Lib.hid hB
  clear hB
  go_enter Try.func90, Try.ntmps90
  go_wp2_with (first | (go_at_call 83; refine (rHead_any c0 c1 c2 c3 c4 c5 c6 _).mono ?_; rintro e w1 ⟨rfl, hb1⟩) | (go_at_call 46; refine (valid_any _ _ _ _).mono ?_; rintro e w2 ⟨rfl, hb2⟩))
  go_ret
  have h1 := HB.out.trans (hb1.mono HB.out.size)
  exact ⟨rfl, h1.trans (hb2.mono h1.size)⟩
end Go.Proofs.YtmdlmmfbcnkanaaR
