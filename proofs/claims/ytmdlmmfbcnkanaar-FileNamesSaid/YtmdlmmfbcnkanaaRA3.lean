/- Texts for the laws of package file, part 3: contracts of the program's functions, each for every input that its words name. -/
import Derived.Test.YtmdlmmfbcnkanaaRA2
import Derived.Lib.IndexLaws
import Derived.Lib.BytesEntry
import Derived.RangeFuncCalls
import Derived.RangeFuncLeaves
import Derived.Shelf.Abstract
import Derived.Shelf.RegionOpen
import Derived.OwnWalkIn
import Derived.TacticsInMore
import Derived.LoopNIn
import Derived.LoopIn
import Derived.Scope
import Derived.Lib.AppendStr
import Derived.Laws.BytesArg
import Derived.Lib.LazyBuf
import Derived.Test.YtmdlmmfbcnkanaaRA1

set_option linter.unusedVariables false
set_option maxRecDepth 10000

namespace Go.Proofs.YtmdlmmfbcnkanaaR
open Go.Lib

theorem ix_cases (l : List UInt8) : indexByte l 10 = -1 ∨ ∃ i : Nat, indexByte l 10 = i := by
  have h := indexByte_ge l 10
  by_cases h1 : indexByte l 10 = -1
  · exact .inl h1
  · exact .inr ⟨(indexByte l 10).toNat, by omega⟩
theorem pieces_none : ∀ (l acc : List UInt8), indexByte l 10 = -1 → pieces acc l = []
  | [], _, _ => rfl
  | b :: l, acc, h => by
    have hge := indexByte_ge l 10
    unfold indexByte at h
    unfold pieces
    by_cases hb : b = 10
    · simp [hb] at h
    · have hb' : (b == 10) = false := by simpa using hb
      simp only [hb', Bool.false_eq_true, if_false] at h
      rw [if_neg hb]
      by_cases h1 : indexByte l 10 = -1
      · exact pieces_none l _ h1
      · have : (indexByte l 10 == -1) = false := by simpa using h1
        simp only [this, Bool.false_eq_true, if_false] at h
        omega
theorem pieces_some : ∀ (l acc : List UInt8) (i : Nat), indexByte l 10 = i → pieces acc l = (acc ++ l.take i) :: pieces [] (l.drop (i + 1)) ∧ i < l.length
  | [], _, i, h => by simp [indexByte] at h
  | b :: l, acc, i, h => by
    have hge := indexByte_ge l 10
    unfold indexByte at h
    show (if b = 10 then acc :: pieces [] l else pieces (acc ++ [b]) l) = (acc ++ (b :: l).take i) :: pieces [] ((b :: l).drop (i + 1)) ∧ i < (b :: l).length
    by_cases hb : b = 10
    · have hb' : (b == 10) = true := by simpa using hb
      simp only [hb', if_true] at h
      obtain rfl : i = 0 := by omega
      rw [if_pos hb]
      exact ⟨by simp, by simp⟩
    · have hb' : (b == 10) = false := by simpa using hb
      simp only [hb', Bool.false_eq_true, if_false] at h
      rw [if_neg hb]
      by_cases h1 : indexByte l 10 = -1
      · have : (indexByte l 10 == -1) = true := by simpa using h1
        simp only [this, if_true] at h
        omega
      · have : (indexByte l 10 == -1) = false := by simpa using h1
        simp only [this, Bool.false_eq_true, if_false] at h
        obtain ⟨j, rfl⟩ : ∃ j, i = j + 1 := ⟨i - 1, by omega⟩
        obtain ⟨h2, h3⟩ := pieces_some l (acc ++ [b]) j (by omega)
        rw [h2]
        exact ⟨by simp, by simp; omega⟩
/-- Where a piece begins. -/
def posP : List (List UInt8) → Nat → Nat
  | _, 0 => 0
  | [], _ + 1 => 0
  | p :: l, j + 1 => p.length + 1 + posP l j
theorem pieces_drop : ∀ (j : Nat) (l : List UInt8), j ≤ (pieces [] l).length → pieces [] (l.drop (posP (pieces [] l) j)) = (pieces [] l).drop j ∧ posP (pieces [] l) j ≤ l.length
  | 0, l, _ => by simp [posP]
  | j + 1, l, h => by
    rcases ix_cases l with h1 | ⟨i, h1⟩
    · rw [pieces_none l [] h1] at h
      simp at h
    · obtain ⟨h2, h3⟩ := pieces_some l [] i h1
      rw [List.nil_append] at h2
      rw [h2] at h ⊢
      have hl : (l.take i).length = i := by simp; omega
      obtain ⟨h4, h5⟩ := pieces_drop j (l.drop (i + 1)) (by simpa using h)
      simp only [posP, hl, List.drop_succ_cons]
      rw [← List.drop_drop]
      refine ⟨h4, ?_⟩
      simp at h5
      omega
/-- What IndexByte finds behind so many pieces. -/
theorem pieces_find (l : List UInt8) (j : Nat) :
    (j = (pieces [] l).length → indexByte (l.drop (posP (pieces [] l) j)) 10 = -1) ∧
    (∀ p, (pieces [] l)[j]? = some p → indexByte (l.drop (posP (pieces [] l) j)) 10 = p.length ∧ p = (l.drop (posP (pieces [] l) j)).take p.length ∧ posP (pieces [] l) (j + 1) = posP (pieces [] l) j + (p.length + 1) ∧ posP (pieces [] l) j + (p.length + 1) ≤ l.length) := by
  have hge := indexByte_ge (l.drop (posP (pieces [] l) j)) 10
  refine ⟨fun h => ?_, fun p hp => ?_⟩
  · obtain ⟨h1, _⟩ := pieces_drop j l (by omega)
    rcases ix_cases (l.drop (posP (pieces [] l) j)) with h2 | ⟨i, h2⟩
    · exact h2
    · obtain ⟨h3, _⟩ := pieces_some _ [] i h2
      rw [h1, h, List.drop_length] at h3
      cases h3
  · have hj := (List.getElem?_eq_some_iff.1 hp).1
    obtain ⟨h1, h0⟩ := pieces_drop j l (by omega)
    have hd : (pieces [] l).drop j = p :: (pieces [] l).drop (j + 1) := by
      rw [List.drop_eq_getElem_cons hj]
      rw [(List.getElem?_eq_some_iff.1 hp).2]
    rcases ix_cases (l.drop (posP (pieces [] l) j)) with h2 | ⟨i, h2⟩
    · have h3 := pieces_none _ [] h2
      rw [h1, hd] at h3
      cases h3
    · obtain ⟨h3, h4⟩ := pieces_some _ [] i h2
      rw [h1, hd] at h3
      simp only [List.nil_append, List.cons.injEq] at h3
      have hl : p.length = i := by
        rw [h3.1, List.length_take]
        omega
      have hpos : ∀ (ps : List (List UInt8)) (k : Nat) (q : List UInt8), ps[k]? = some q → posP ps (k + 1) = posP ps k + (q.length + 1) := by
        intro ps
        induction ps with
        | nil => intro k q h; simp at h
        | cons x ps ih =>
          intro k q h
          cases k with
          | zero => simp at h; subst h; simp [posP]
          | succ k =>
            simp at h
            have := ih k q h
            simp only [posP] at this ⊢
            omega
      rw [List.length_drop] at h4
      rw [hl]
      exact ⟨h2, h3.1, by rw [hpos _ j p hp, hl], by omega⟩
end Go.Proofs.YtmdlmmfbcnkanaaR
namespace Go.Proofs.YtmdlmmfbcnkanaaR
open Go.RowKit Go.Shelf

theorem bytesOf_u8 (l : List UInt8) : Lib.bytesOf (l.map fun b => (b.toNat : Int)) = l := by
  simp only [Lib.bytesOf, List.map_map]
  conv => rhs; rw [← List.map_id l]
  congr 1
  funext b
  simp
set_option maxHeartbeats 1000000 in
set_option maxRecDepth 100000 in
theorem index_byte (A : Option Addr) (c : Nat) (l : List UInt8) (B : Nat) (w : World) (hA : BytesAt w B A l) :
    Calls Try.prog 86 #[.slice A l.length c, .int .u8 10] w fun e w' => e = .returned (.int .i64 (Lib.indexByte l 10)) ∧ w' = w := by
  go_enter Try.func86, Try.ntmps86
  go_wp2
  rw [run_callFunc_extern Try.func101 (by kernel_rfl) (by kernel_rfl) (by kernel_rfl) (e := Extern.BytealgIndexByte.indexByte) (by kernel_rfl)]
  cases A with
  | none =>
    have hl : l = [] := by
      cases l with
      | nil => rfl
      | cons x l =>
        obtain ⟨b, o, h, _⟩ := hA 0 x rfl
        cases h
    subst hl
    rw [Lib.run_indexByteNil]
    simp only [Result.andThen]
    rw [Oper.upon_value]
    go_wp2
    go_ret
    exact ⟨rfl, rfl⟩
  | some p =>
    by_cases hl : l = []
    · subst hl
      have hr : (Extern.BytealgIndexByte.indexByte #[.slice (some p) 0 c, .int .u8 10]).run Try.prog w = .ok (.int .i64 (-1)) w := by kernel_rfl
      simp only [List.length_nil]
      rw [hr]
      simp only [Result.andThen]
      rw [Oper.upon_value]
      go_wp2
      go_ret
      exact ⟨rfl, rfl⟩
    · have hpo : ∃ b o, p = ⟨b, o, none⟩ := by
        cases l with
        | nil => exact (hl rfl).elim
        | cons x l =>
          obtain ⟨b, o, h, _⟩ := hA 0 x rfl
          cases h
          exact ⟨b, o, rfl⟩
      obtain ⟨b, o, rfl⟩ := hpo
      have hx : (l.map fun b => (b.toNat : Int)).length = l.length := by simp
      have hc : ∀ i, i < l.length → w.cell? ⟨b, o + i, none⟩ = some (.int .u8 ((l.map fun b => (b.toNat : Int)).getD i 0)) := by
        intro i hi
        obtain ⟨b', o', h, _, h2⟩ := hA i l[i] (List.getElem?_eq_getElem hi)
        cases h
        rw [h2]
        simp [u8V, hi]
      have hr := Lib.run_indexByteSlice (P := Try.prog) (w := w) b o l.length c (l.map fun b => (b.toNat : Int)) hx hc 10
      rw [bytesOf_u8] at hr
      rw [hr]
      simp only [Result.andThen]
      rw [Oper.upon_value]
      go_wp2
      go_ret
      exact ⟨rfl, rfl⟩
end Go.Proofs.YtmdlmmfbcnkanaaR
namespace Go.Proofs.YtmdlmmfbcnkanaaR
open Go.RowKit Go.Shelf
attribute [local go_sem] Oper.semAt_some

set_option maxHeartbeats 400000 in
theorem pieces_any (A : Option Addr) (n c : Nat) (w : World) :
    Calls Try.prog 66 #[.slice A n c] w fun e w' => e = .returned (.func (.func 85) #[] #[.pointer (some ⟨w.heap.size, 0, none⟩)]) ∧ w' = w.alloc (.cells #[.slice A n c] 31) := by
  go_enter Try.func66, Try.ntmps66
  go_wp2
  go_ret
  exact ⟨rfl, rfl⟩
/-- An address, so many cells on. -/
def adr (A : Option Addr) (k : Nat) : Option Addr := A.map fun p => ⟨p.block, p.off + k, none⟩
theorem BytesAt.drop {w : World} {B : Nat} {A A' : Option Addr} {l : List UInt8} {k : Nat} (h : BytesAt w B A l) (hA : k < l.length → A' = adr A k) : BytesAt w B A' (l.drop k) := by
  intro i x hx
  have hlt := (List.getElem?_eq_some_iff.1 hx).1
  rw [List.getElem?_drop] at hx
  obtain ⟨b, o, h1, h2, h3⟩ := h (k + i) x hx
  subst h1
  rw [List.length_drop] at hlt
  exact ⟨b, o + k, by rw [hA (by omega)]; rfl, h2, by rw [Nat.add_assoc]; exact h3⟩
theorem BytesAt.take {w : World} {B : Nat} {A : Option Addr} {l : List UInt8} (k : Nat) (h : BytesAt w B A l) : BytesAt w B A (l.take k) := by
  intro i x hx
  rw [List.getElem?_take] at hx
  split at hx
  · exact h i x hx
  · cases hx
/-- How long the slice in a block is. -/
def lenAt (w : World) (b : Nat) : Nat := match w.cell? ⟨b, 0, none⟩ with | some (.slice _ n _) => n | _ => 0
/-- The value of a piece. -/
def encP (A : Option Addr) (c : Nat) (l : List UInt8) (i : Nat) : Array Value := #[.slice (adr A (posP (pieces [] l) i)) ((pieces [] l)[i]?.getD []).length (c - posP (pieces [] l) i)]

set_option maxRecDepth 100000 in
set_option maxHeartbeats 1000000 in
theorem pieces_it (n : Nat) (A : Option Addr) (c B bb : Nat) (l : List UInt8) (hl : l.length ≤ 100000) (hc : l.length ≤ c) (w0 : World) (hw : Whole w0 bb 31 #[.slice A l.length c]) :
    SeqIx Fence.wide n Try.prog 85 #[.pointer (some ⟨bb, 0, none⟩)] (encP A c l) (pieces [] l).length bb (fun W => BytesAt W B A l) w0 := by
  intro ly J Jx W hW hJ hJx hZ hY h0
  have HY := Lib.hid hY
  have HJ := Lib.hid hJ
  have HZ := Lib.hid hZ
  have hw0 := hw.below hW hw.lt
  clear hY hJ hZ hw
  refine callsIn_of_wp Try.func85 rfl trivial ?_ rfl
  simp only [Try.ntmps85, List.size_toArray, List.length_cons, List.length_nil, Nat.reduceAdd, Nat.reduceSub, Array.replicate_succ, Array.replicate_zero, List.push_toArray, List.append_toArray, List.nil_append, List.cons_append]
  have hwd : Fence.wide.depth = none := rfl
  have hwf : ∀ f, Fence.wide.fn f = True := fun _ => rfl
  gi_wp2_with fail
  gi_loopw [] (fun wr => ∃ j A', j ≤ (pieces [] l).length ∧ J j wr ∧ Whole wr bb 31 #[.slice A' (l.length - posP (pieces [] l) j) (c - posP (pieces [] l) j)] ∧ (posP (pieces [] l) j < l.length → A' = adr A (posP (pieces [] l) j))) (fun wr => lenAt wr bb)
  case atStart => exact ⟨0, A, Nat.zero_le _, h0, by simpa [posP] using hw0, fun h0' => by
    have h : 0 < l.length := by simpa [posP] using h0'
    obtain ⟨b, o, h1, _⟩ := HZ.out 0 W h0 0 (l[0]'h) (List.getElem?_eq_getElem h)
    subst h1
    simp [adr, posP]⟩
  case round =>
    obtain ⟨j, A', hj, hJs, hws, hA'⟩ := hrel
    have hcell : wr.cell? ⟨bb, 0, none⟩ = some (.slice A' (l.length - posP (pieces [] l) j) (c - posP (pieces [] l) j)) := hws.cell 0
    have hfro := hws.frozen 0
    have hbyt := (HZ.out j wr hJs).drop hA'
    have hix := index_byte A' (c - posP (pieces [] l) j) (l.drop (posP (pieces [] l) j)) B wr hbyt
    rw [List.length_drop] at hix
    have hpf := pieces_find l j
    have Hix := Lib.hid hix
    clear hix
    gi_wp2_with fail
    refine (callsIn_wide.2 Hix.out).mono ?_
    rintro e wr ⟨rfl, rfl⟩
    by_cases hlt : j < (pieces [] l).length
    · obtain ⟨hf1, hf2, hf3, hf4⟩ := hpf.2 _ (List.getElem?_eq_getElem hlt)
      have hyld := HY.out j wr hlt hJs
      have henc : encP A c l j = #[.slice A' ((pieces [] l)[j]).length (c - posP (pieces [] l) j)] := by
        rw [hA' (by omega)]
        simp [encP, hlt]
      rw [henc] at hyld
      rw [hf1]
      have hnxt : l.length - posP (pieces [] l) (j + 1) = l.length - posP (pieces [] l) j - (((pieces [] l)[j]).length + 1) ∧ c - posP (pieces [] l) (j + 1) = c - posP (pieces [] l) j - (((pieces [] l)[j]).length + 1) := by omega
      generalize hm : ((pieces [] l)[j]).length = m at *
      generalize hq : posP (pieces [] l) j = q at *
      generalize hn1 : l.length - q = n1 at *
      generalize hc1 : c - q = c1 at *
      have hle1 : m + 1 ≤ n1 := by omega
      have hle2 : n1 ≤ c1 := by omega
      have hle3 : n1 ≤ 100000 := by omega
      have hyld2 : YieldAt Fence.wide (n - 1) Try.prog ly #[.slice A' m c1] wr fun e W' => ∃ b, e = .returned (.bool b) ∧ ((b = true ∧ J (j + 1) W' ∧ W'.heap[bb]? = wr.heap[bb]?) ∨ (b = false ∧ Jx j W')) := hyld.mono (by
        rintro e W' (⟨rfl, h⟩ | ⟨rfl, h⟩)
        · exact ⟨true, rfl, .inl ⟨rfl, h⟩⟩
        · exact ⟨false, rfl, .inr ⟨rfl, h⟩⟩)
      obtain ⟨fn, tmps, assign, body, hy, hR⟩ := hyld2
      clear hyld
      have hnn : ¬ ((m : Int) < 0) := by omega
      gi_wp2_with fail
      refine hR.mono ?_
      rintro e W3 ⟨b, rfl, hsaid⟩
      rcases hsaid with ⟨rfl, hJ3, hk3⟩ | ⟨rfl, hx⟩
      · have hws3 : Whole W3 bb 31 #[.slice A' n1 c1] := hk3.trans hws
        have hcell3 : W3.cell? ⟨bb, 0, none⟩ = some (.slice A' n1 c1) := hws3.cell 0
        have hfro3 := hws3.frozen 0
        clear hy hR
        gi_wp2_with fail
        have hset := hws3.set 0 (Value.slice (if c1 = m + 1 then A' else Option.map (fun x => { block := x.block, off := x.off + (m + 1) }) A') (n1 - (m + 1)) (c1 - (m + 1)))
        have hl0 : lenAt wr bb = n1 := by simp [lenAt, hcell]
        have hl1 := hset.cell 0
        refine ⟨⟨j + 1, _, hlt, HJ.out.cell hJ3 (grownBy_setCell' W3 bb _), by rw [hnxt.1, hnxt.2]; exact hset, fun hq2 => ?_⟩, ?_⟩
        · rw [hf3] at hq2 ⊢
          rw [if_neg (by omega), hA' (by omega)]
          cases A with
          | none => rfl
          | some p => simp [adr, Nat.add_assoc]
        · rw [hl0]
          simp only [lenAt]
          rw [show ∀ u, (W3.setCell ⟨bb, 0, none⟩ u).cell? ⟨bb, 0, none⟩ = some u from fun u => (hws3.set 0 u).cell 0]
          simp only []
          omega
      · clear hy hR
        gi_wp2
        refine bodyPost_ret (results_none rfl _ _ _) rfl ?_
        exact ⟨⟨_, rfl⟩, .inr ⟨j, hlt, hx⟩⟩
    · obtain rfl : j = (pieces [] l).length := by omega
      rw [hpf.1 rfl]
      gi_wp2
      refine bodyPost_ret (results_none rfl _ _ _) rfl ?_
      exact ⟨⟨_, rfl⟩, .inl hJs⟩
end Go.Proofs.YtmdlmmfbcnkanaaR
namespace Go.Proofs.YtmdlmmfbcnkanaaR
open Go.RowKit Go.Shelf
/-- A function that leaves with marks alone; what it hands back lies in cells. -/
theorem leaves_marks2 {n : Nat} {fn : Func} {tmps : Array Value} {R : Ending → World → Prop} {h : Nat} {v : Value} (J : World → Prop) (hJ : ∀ W D, h ≤ D → W.heap[D]? = some (.deferred (some [])) → J W → J (W.putObj D (.deferred none)))
    (hv : ∀ W, J W → (results fn tmps).run Try.prog W = .ok v W) (hR : ∀ W, J W → R (.returned v) W) :
    ∀ (Ds : List Nat) (W : World), Mk h Ds W → J W → LeavesInM Fence.wide n Try.prog fn tmps R (Ds.map mark) .returning W := by
  intro Ds
  induction Ds with
  | nil => exact fun W _ hW => ⟨v, hv W hW, hR W hW⟩
  | cons D Ds ih =>
    intro W m hW
    have h0 := m.at_ D List.mem_cons_self
    have hnd := List.nodup_cons.1 m.nd
    refine ⟨by simp, .inl ⟨D, _, rfl, run_takeDeferred h0.2, ih _ ⟨hnd.2, fun D' hD' => ⟨(m.at_ D' (List.mem_cons_of_mem _ hD')).1, ?_⟩⟩ (hJ W D h0.1 h0.2 hW)⟩⟩
    rw [World.putObj_heap_other (by rintro rfl; exact hnd.1 hD')]
    exact (m.at_ D' (List.mem_cons_of_mem _ hD')).2
theorem und83 (w : World) : (underlying 83).run Try.prog w = .ok (.array 7 5) w := by kernel_rfl
theorem sz5 (w : World) : (sizeOf 5).run Try.prog w = .ok 1 w := by kernel_rfl
theorem p5_0 (v0 v1 v2 v3 v4 v5 v6 : Int) (w : World) : (part 5 #[.int .u8 v0, .int .u8 v1, .int .u8 v2, .int .u8 v3, .int .u8 v4, .int .u8 v5, .int .u8 v6] 0).run Try.prog w = .ok (.int .u8 v0) w := by kernel_rfl
theorem p5_1 (v0 v1 v2 v3 v4 v5 v6 : Int) (w : World) : (part 5 #[.int .u8 v0, .int .u8 v1, .int .u8 v2, .int .u8 v3, .int .u8 v4, .int .u8 v5, .int .u8 v6] 1).run Try.prog w = .ok (.int .u8 v1) w := by kernel_rfl
theorem p5_2 (v0 v1 v2 v3 v4 v5 v6 : Int) (w : World) : (part 5 #[.int .u8 v0, .int .u8 v1, .int .u8 v2, .int .u8 v3, .int .u8 v4, .int .u8 v5, .int .u8 v6] 2).run Try.prog w = .ok (.int .u8 v2) w := by kernel_rfl
theorem p5_3 (v0 v1 v2 v3 v4 v5 v6 : Int) (w : World) : (part 5 #[.int .u8 v0, .int .u8 v1, .int .u8 v2, .int .u8 v3, .int .u8 v4, .int .u8 v5, .int .u8 v6] 3).run Try.prog w = .ok (.int .u8 v3) w := by kernel_rfl
theorem p5_4 (v0 v1 v2 v3 v4 v5 v6 : Int) (w : World) : (part 5 #[.int .u8 v0, .int .u8 v1, .int .u8 v2, .int .u8 v3, .int .u8 v4, .int .u8 v5, .int .u8 v6] 4).run Try.prog w = .ok (.int .u8 v4) w := by kernel_rfl
theorem p5_5 (v0 v1 v2 v3 v4 v5 v6 : Int) (w : World) : (part 5 #[.int .u8 v0, .int .u8 v1, .int .u8 v2, .int .u8 v3, .int .u8 v4, .int .u8 v5, .int .u8 v6] 5).run Try.prog w = .ok (.int .u8 v5) w := by kernel_rfl
theorem p5_6 (v0 v1 v2 v3 v4 v5 v6 : Int) (w : World) : (part 5 #[.int .u8 v0, .int .u8 v1, .int .u8 v2, .int .u8 v3, .int .u8 v4, .int .u8 v5, .int .u8 v6] 6).run Try.prog w = .ok (.int .u8 v6) w := by kernel_rfl
theorem u8_beq (a b : UInt8) : ((a.toNat : Int) == (b.toNat : Int)) = decide (a = b) := by
  by_cases h : a = b
  · simp [h]
  · have : ¬ (a.toNat : Int) = b.toNat := fun e => h (UInt8.toNat_inj.1 (by omega))
    simp [h, this]
theorem eq83 (c0 c1 c2 c3 c4 c5 c6 e0 e1 e2 e3 e4 e5 e6 : UInt8) (w : World) : (Op.equalIn 10000 83 (rV c0 c1 c2 c3 c4 c5 c6) (rV e0 e1 e2 e3 e4 e5 e6)).run Try.prog w = .ok (decide ([c0, c1, c2, c3, c4, c5, c6] = [e0, e1, e2, e3, e4, e5, e6])) w := by
  show (Op.equalIn (9999 + 1) 83 _ _).run Try.prog w = _
  unfold Op.equalIn
  simp only [Sem.run_bind, und83, Result.andThen, sz5]
  rw [Std.Legacy.Range.forIn_eq_forIn_range']
  simp only [Std.Legacy.Range.size, List.range', List.forIn_cons, List.forIn_nil, Nat.sub_zero, Nat.div_one, Nat.mul_one, Sem.run_bind, p5_0, eq5, u8_beq, Nat.zero_add, Nat.reduceAdd, Result.andThen]
  by_cases h0 : c0 = e0
  · by_cases h1 : c1 = e1
    · by_cases h2 : c2 = e2
      · by_cases h3 : c3 = e3
        · by_cases h4 : c4 = e4
          · by_cases h5 : c5 = e5
            · by_cases h6 : c6 = e6
              · simp [h0, h1, h2, h3, h4, h5, h6, p5_1, p5_2, p5_3, p5_4, p5_5, p5_6, eq5]
              · simp [h0, h1, h2, h3, h4, h5, h6, p5_1, p5_2, p5_3, p5_4, p5_5, p5_6, eq5, u8_beq]
            · simp [h0, h1, h2, h3, h4, h5, p5_1, p5_2, p5_3, p5_4, p5_5, p5_6, eq5, u8_beq]
          · simp [h0, h1, h2, h3, h4, p5_1, p5_2, p5_3, p5_4, p5_5, p5_6, eq5, u8_beq]
        · simp [h0, h1, h2, h3, p5_1, p5_2, p5_3, p5_4, p5_5, p5_6, eq5, u8_beq]
      · simp [h0, h1, h2, p5_1, p5_2, p5_3, p5_4, p5_5, p5_6, eq5, u8_beq]
    · simp [h0, h1, p5_1, p5_2, p5_3, p5_4, p5_5, p5_6, eq5, u8_beq]
  · simp [h0]
theorem neq83 {x y : Operand} (c0 c1 c2 c3 c4 c5 c6 e0 e1 e2 e3 e4 e5 e6 : UInt8) (w : World) : (do eqGuard .neq 83 x y (rV c0 c1 c2 c3 c4 c5 c6) (rV e0 e1 e2 e3 e4 e5 e6); binOp .neq 83 (rV c0 c1 c2 c3 c4 c5 c6) (rV e0 e1 e2 e3 e4 e5 e6) : Sem Value).run Try.prog w = .ok (.bool (decide ([c0, c1, c2, c3, c4, c5, c6] ≠ [e0, e1, e2, e3, e4, e5, e6]))) w := by
  go_simp
  rw [eq83]
  simp [Result.andThen]
section
variable {P : Program} {ops : Array Oper} {K : Act → World → Prop} {Kp : Nat → World → World → Prop} {fuel d i : Nat} {listed : Array Bool} {a : Act} {w w' : World} {ty : TypeId} {pos : String} {aft : Array Edge} {v : Value} {gd : Option (Nat × Bool)}
theorem StepK.look2 {t : TypeId} {x y : Operand} {u u' : Value} (hi : ops[i]? = some ⟨some d, .lookup t x y true, ty, pos, aft, gd⟩) (hx : a.eval x = u) (hy : a.eval y = u') (hv : (Instr.lookup t u u' true).run P w = .ok v w') (hk : Kp i w w')
    (h : AnyK P ops K Kp fuel (listed.setIfInBounds i true) (a.put (some d) v) w') (hw : Region.wanted ⟨some d, .lookup t x y true, ty, pos, aft, gd⟩ (yielded ops a.tmps) = true := by rfl) : StepK P ops K Kp fuel listed a w i := by
  unfold StepK opG
  simp only [hi]
  rw [if_pos hw]
  simp only [Oper.wp, execOp, hx, hy]
  simp [hv, Oper.upon]
  exact ⟨hk, h⟩
theorem StepK.mapUp {t : TypeId} {x y z : Operand} {u u' u'' : Value} (hi : ops[i]? = some ⟨none, .mapUpdate t x y z, ty, pos, aft, gd⟩) (hx : a.eval x = u) (hy : a.eval y = u') (hz : a.eval z = u'') (hv : (Instr.mapUpdate t u u' u'').run P w = .ok () w') (hk : Kp i w w')
    (h : AnyK P ops K Kp fuel (listed.setIfInBounds i true) a w') (hw : Region.wanted ⟨none, .mapUpdate t x y z, ty, pos, aft, gd⟩ (yielded ops a.tmps) = true := by rfl) : StepK P ops K Kp fuel listed a w i := by
  unfold StepK opG
  simp only [hi]
  rw [if_pos hw]
  simp only [Oper.wp, execOp, hx, hy, hz]
  simp [hv, Oper.upon]
  exact ⟨hk, h⟩
end
theorem ln124 (A : Option Addr) (n c : Nat) (t : TypeId) (w : World) : (builtin .len #[124] t #[false] #[.slice A n c]).run Try.prog w = .ok (.value (.int .i64 (n : Int))) w := by go_simp
theorem res58 {fn : Func} {W : World} {a : Act} {b2 b3 : Nat} {x y : Value} (h : fn.results = #[.cell 2 90, .cell 3 27]) (h2 : a.eval (.tmp 2) = .pointer (some ⟨b2, 0, none⟩)) (h3 : a.eval (.tmp 3) = .pointer (some ⟨b3, 0, none⟩)) (w2 : W.cell? ⟨b2, 0, none⟩ = some x) (w3 : W.cell? ⟨b3, 0, none⟩ = some y) :
    (results fn a.tmps).run Try.prog W = .ok (.tuple #[x, y]) W := by
  have e2 : a.tmps[2]?.getD undef = .pointer (some ⟨b2, 0, none⟩) := by simpa [Act.eval] using h2
  have e3 : a.tmps[3]?.getD undef = .pointer (some ⟨b3, 0, none⟩) := by simpa [Act.eval] using h3
  simp only [results, h]
  simp [e2, e3]
  go_simp
end Go.Proofs.YtmdlmmfbcnkanaaR
namespace Go.Proofs.YtmdlmmfbcnkanaaR
open Go.RowKit Go.Shelf
theorem takeUp_append : ∀ (l1 l2 m : List (List UInt8)), takeUp m (l1 ++ l2) = (takeUp m l1).bind fun m' => takeUp m' l2
  | [], _, _ => rfl
  | g :: l1, l2, m => by
    simp only [List.cons_append, takeUp]
    cases find m (nameOf g) with
    | none => exact takeUp_append l1 l2 _
    | some old =>
      by_cases h : old = g
      · simp only [if_pos h]
        exact takeUp_append l1 l2 m
      · simp [h]
theorem good_seven {p : List UInt8} (h : isGood p = true) : p.length = 7 := by
  by_cases e : p.length = 7
  · exact e
  · rw [not7 e] at h
    cases h
theorem recMap_app (m : List (List UInt8)) (g : List UInt8) : recMap (m ++ [g]) = recMap m ++ [(nameOf g, .agg (recC g))] := by simp [recMap]
/-- One piece is taken up. -/
def step1 (m : List (List UInt8)) (p : List UInt8) : Option (List (List UInt8)) := takeUp m ([p].filter isGood)
theorem step1_bad {m : List (List UInt8)} {p : List UInt8} (h : isGood p = false) : step1 m p = some m := by simp [step1, h, takeUp]
theorem step1_new {m : List (List UInt8)} {p : List UInt8} (h : isGood p = true) (hf : find m (nameOf p) = none) : step1 m p = some (m ++ [p]) := by simp [step1, h, takeUp, hf]
theorem step1_old {m : List (List UInt8)} {p : List UInt8} (h : isGood p = true) (hf : find m (nameOf p) = some p) : step1 m p = some m := by simp [step1, h, takeUp, hf]
theorem step1_no {m : List (List UInt8)} {p old : List UInt8} (h : isGood p = true) (hf : find m (nameOf p) = some old) (ho : old ≠ p) : step1 m p = none := by simp [step1, h, takeUp, hf, ho]

/-- What holds between two pieces. -/
structure RdI (W0 : World) (b2 b3 b4 ba M : Nat) (Ds : List Nat) (m : List (List UInt8)) (W : World) : Prop where
  low : Below W0.heap.size W0 W
  ord : W0.heap.size ≤ b2 ∧ b2 < b3 ∧ b3 < M ∧ M < ba ∧ ba < b4
  w2 : Whole W b2 90 #[.pointer none]
  w3 : Whole W b3 27 #[.int .i64 0]
  w4 : Whole W b4 90 #[ptr ba]
  wa : Whole W ba 95 #[.int .i64 0, .int .i64 0, .int .i64 0, .map (some M)]
  mp : MapAt nameV W M (recMap m)
  gd : ∀ r, r ∈ m → isGood r = true
  mks : Mk (b4 + 1) Ds W
/-- How it is when an error has been told. -/
structure RdE (W0 : World) (b2 b3 b4 : Nat) (Ds : List Nat) (c : Int) (W : World) : Prop where
  low : Below W0.heap.size W0 W
  ord : W0.heap.size ≤ b2 ∧ b2 < b3 ∧ b3 < b4
  w2 : Whole W b2 90 #[.pointer none]
  w3 : Whole W b3 27 #[.int .i64 c]
  mks : Mk (b4 + 1) Ds W
section
variable {W0 W W' : World} {b2 b3 b4 ba M h : Nat} {Ds : List Nat} {m : List (List UInt8)} {c : Int}
theorem Mk.else {X : Nat → Prop} (k : Mk h Ds W) (he : Else X W W') (hD : ∀ D, D ∈ Ds → ¬ X D) : Mk h Ds W' :=
  ⟨k.nd, fun D hd => ⟨(k.at_ D hd).1, (he.block D (k.lt hd) (hD D hd)).trans (k.at_ D hd).2⟩⟩
theorem RdI.else {X : Nat → Prop} (i : RdI W0 b2 b3 b4 ba M Ds m W) (he : Else X W W') (hX : ∀ k, k ≤ b4 → ¬ X k) (hD : ∀ D, D ∈ Ds → ¬ X D) : RdI W0 b2 b3 b4 ba M Ds m W' := by
  obtain ⟨o1, o2, o3, o4, o5⟩ := i.ord
  exact ⟨i.low.trans (he.below i.low.size (fun k hk => hX k (by omega))), i.ord, he.whole (hX _ (by omega)) i.w2, he.whole (hX _ (by omega)) i.w3, he.whole (hX _ (by omega)) i.w4, he.whole (hX _ (by omega)) i.wa, i.mp.keep (he.block M i.mp.lt (hX _ (by omega))), i.gd, i.mks.else he hD⟩
theorem RdI.below (i : RdI W0 b2 b3 b4 ba M Ds m W) (hb : Below W.heap.size W W') : RdI W0 b2 b3 b4 ba M Ds m W' := i.else (Else.of_below (fun _ => False) hb) (fun _ _ h => h) (fun _ _ h => h)
theorem RdE.else {X : Nat → Prop} (i : RdE W0 b2 b3 b4 Ds c W) (he : Else X W W') (hX : ∀ k, k ≤ b4 → ¬ X k) (hD : ∀ D, D ∈ Ds → ¬ X D) : RdE W0 b2 b3 b4 Ds c W' := by
  obtain ⟨o1, o2, o3⟩ := i.ord
  exact ⟨i.low.trans (he.below i.low.size (fun k hk => hX k (by omega))), i.ord, he.whole (hX _ (by omega)) i.w2, he.whole (hX _ (by omega)) i.w3, i.mks.else he hD⟩
theorem RdI.lt (i : RdI W0 b2 b3 b4 ba M Ds m W) : b4 < W.heap.size := i.w4.lt
/-- An error is told. -/
theorem RdI.err (i : RdI W0 b2 b3 b4 ba M Ds m W) (c : Int) : RdE W0 b2 b3 b4 Ds c ((W.setCell ⟨b2, 0, none⟩ (.pointer none)).setCell ⟨b3, 0, none⟩ (.int .i64 c)) := by
  obtain ⟨o1, o2, o3, o4, o5⟩ := i.ord
  have e2 : Else (fun k => k = b2) W (W.setCell ⟨b2, 0, none⟩ (.pointer none)) := (Else.refl (fun k => k = b2) W).setCell (p := ⟨b2, 0, none⟩) (.inl rfl) _
  have e3 : Else (fun k => k = b3) (W.setCell ⟨b2, 0, none⟩ (.pointer none)) ((W.setCell ⟨b2, 0, none⟩ (.pointer none)).setCell ⟨b3, 0, none⟩ (.int .i64 c)) := (Else.refl (fun k => k = b3) _).setCell (p := ⟨b3, 0, none⟩) (.inl rfl) _
  refine ⟨(i.low.setCell (p := ⟨b2, 0, none⟩) o1 _).setCell (p := ⟨b3, 0, none⟩) (by show W0.heap.size ≤ b3; omega) _, ⟨o1, o2, by omega⟩, e3.whole (by omega) (i.w2.set 0 _), (e2.whole (by omega) i.w3).set 0 _, (i.mks.else e2 ?_).else e3 ?_⟩
  · intro D hD e
    have := (i.mks.at_ D hD).1
    omega
  · intro D hD e
    have := (i.mks.at_ D hD).1
    omega
/-- A record is taken up. -/
theorem RdI.put (i : RdI W0 b2 b3 b4 ba M Ds m W) {p : List UInt8} {m' : List (List UInt8)} (hg : isGood p = true) (hs : step1 m p = some m') :
    ∃ W', (Instr.mapUpdate 93 (.map (some M)) (nameV (nameOf p)) (.agg (recC p))).run Try.prog W = .ok () W' ∧ RdI W0 b2 b3 b4 ba M Ds m' W' ∧ Else (fun k => k = M) W W' := by
  obtain ⟨o1, o2, o3, o4, o5⟩ := i.ord
  obtain ⟨o, h3, h4⟩ := i.mp.put kl97 (nameOf p) (.agg (recC p))
  have he : Else (fun k => k = M) W (W.putObj M o) := ⟨⟨rfl, rfl, rfl, by simp [World.putObj], fun k hk => by omega⟩, fun k _ hx => World.putObj_heap_other hx⟩
  have hm' : putK (recMap m) (nameOf p) (.agg (recC p)) = recMap m' ∧ ∀ r, r ∈ m' → isGood r = true := by
    cases hf : find m (nameOf p) with
    | none =>
      rw [step1_new hg hf] at hs
      cases hs
      refine ⟨?_, fun r hr => ?_⟩
      · rw [putK_new (by rw [getK_rec, hf]; rfl), recMap_app]
      · rcases List.mem_append.1 hr with hr | hr
        · exact i.gd r hr
        · simp at hr
          subst hr
          exact hg
    | some old =>
      by_cases ho : old = p
      · subst ho
        rw [step1_old hg hf] at hs
        cases hs
        exact ⟨putK_same (by rw [getK_rec, hf]; rfl), i.gd⟩
      · rw [step1_no hg hf ho] at hs
        cases hs
  rw [hm'.1] at h4
  refine ⟨_, h3, ⟨i.low.trans (he.below i.low.size (fun k hk => by omega)), i.ord, he.whole (by omega) i.w2, he.whole (by omega) i.w3, he.whole (by omega) i.w4, he.whole (by omega) i.wa, h4, hm'.2, i.mks.else he (fun D hD e => ?_)⟩, he⟩
  have := (i.mks.at_ D hD).1
  omega
end
end Go.Proofs.YtmdlmmfbcnkanaaR
namespace Go.Proofs.YtmdlmmfbcnkanaaR
open Go.RowKit Go.Shelf
noncomputable def opsRd0 : Array Oper := (Try.f58.body.bind (regionOf 0)).getD #[]
noncomputable def opsRd1 : Array Oper := (Try.f58.body.bind (regionOf 1)).getD #[]
noncomputable def opsRd2 : Array Oper := (Try.f58.body.bind (regionOf 2)).getD #[]
noncomputable def opsRd3 : Array Oper := (Try.f58.body.bind (regionOf 3)).getD #[]
noncomputable def opsRd4 : Array Oper := (Try.f58.body.bind (regionOf 4)).getD #[]
noncomputable def opsRd5 : Array Oper := (Try.f58.body.bind (regionOf 5)).getD #[]
noncomputable def opsRd6 : Array Oper := (Try.f58.body.bind (regionOf 6)).getD #[]
noncomputable def opsRd7 : Array Oper := (Try.f58.body.bind (regionOf 7)).getD #[]
noncomputable def opsRd8 : Array Oper := (Try.f58.body.bind (regionOf 8)).getD #[]
noncomputable def opsRd9 : Array Oper := (Try.f58.body.bind (regionOf 9)).getD #[]
noncomputable def opsRd10 : Array Oper := (Try.f58.body.bind (regionOf 10)).getD #[]
noncomputable def opsRd11 : Array Oper := (Try.f58.body.bind (regionOf 11)).getD #[]
noncomputable def opsRd12 : Array Oper := (Try.f58.body.bind (regionOf 12)).getD #[]
noncomputable def opsRd13 : Array Oper := (Try.f58.body.bind (regionOf 13)).getD #[]
noncomputable def opsRd14 : Array Oper := (Try.f58.body.bind (regionOf 14)).getD #[]
noncomputable def opsRd15 : Array Oper := (Try.f58.body.bind (regionOf 15)).getD #[]
noncomputable def opsRd16 : Array Oper := (Try.f58.body.bind (regionOf 16)).getD #[]
noncomputable def opsRd17 : Array Oper := (Try.f58.body.bind (regionOf 17)).getD #[]
noncomputable def opsRd18 : Array Oper := (Try.f58.body.bind (regionOf 18)).getD #[]
noncomputable def opsRd19 : Array Oper := (Try.f58.body.bind (regionOf 19)).getD #[]
noncomputable def opsRd20 : Array Oper := (Try.f58.body.bind (regionOf 20)).getD #[]
noncomputable def opsRd21 : Array Oper := (Try.f58.body.bind (regionOf 21)).getD #[]
noncomputable def opsRd22 : Array Oper := (Try.f58.body.bind (regionOf 22)).getD #[]
noncomputable def opsRd23 : Array Oper := (Try.f58.body.bind (regionOf 23)).getD #[]
noncomputable def opsRd24 : Array Oper := (Try.f58.body.bind (regionOf 24)).getD #[]
noncomputable def opsRd25 : Array Oper := (Try.f58.body.bind (regionOf 25)).getD #[]
noncomputable def opsRd26 : Array Oper := (Try.f58.body.bind (regionOf 26)).getD #[]
noncomputable def opsRd27 : Array Oper := (Try.f58.body.bind (regionOf 27)).getD #[]
noncomputable def opsRd28 : Array Oper := (Try.f58.body.bind (regionOf 28)).getD #[]
noncomputable def opsRd29 : Array Oper := (Try.f58.body.bind (regionOf 29)).getD #[]
noncomputable def rd_l1 : Code := (.seq (.region 3 opsRd3 false) (.seq (.cond (.tmp 23) .skip (.exit 0)) (.seq (.block 1 (.seq (.region 4 opsRd4 false) (.seq (.region 5 opsRd5 false) (.cond (.tmp 28) (.seq (.region 6 opsRd6 false) .ret) .skip)))) (.region 7 opsRd7 false))))
noncomputable def rd_c : Code := (.seq (.region 16 opsRd16 false) (.cond (.tmp 61) (.seq (.region 17 opsRd17 false) .ret) .skip))
noncomputable def rd_as : Code := (.region 12 opsRd12 false)
noncomputable def rd_body : Code := (.block 5 (.seq (.region 13 opsRd13 false) (.seq (.seq (.region 14 opsRd14 false) (.cond (.tmp 45) (.exit 5) .skip)) (.seq (.seq (.region 15 opsRd15 true) rd_c) (.region 18 opsRd18 true)))))
noncomputable def rd_range : Code := (.rangeFunc (.tmp 37) #[38] rd_as rd_body)
noncomputable def rd_l2 : Code := (.seq (.region 9 opsRd9 false) (.seq (.cond (.tmp 33) .skip (.exit 2)) (.seq (.block 3 (.seq (.region 10 opsRd10 false) (.seq (.region 11 opsRd11 false) (.block 4 rd_range)))) (.region 19 opsRd19 false))))
noncomputable def rd_l3 : Code := (.seq (.region 25 opsRd25 false) (.seq (.cond (.tmp 92) .skip (.exit 6)) (.block 7 (.seq (.region 26 opsRd26 false) (.seq (.region 27 opsRd27 true) (.cond (.tmp 122) (.seq (.region 28 opsRd28 false) .ret) .skip))))))
noncomputable def rd_fin : Code := (.seq (.seq (.region 24 opsRd24 false) (.block 6 (.loop rd_l3))) (.seq (.region 29 opsRd29 false) .ret))
noncomputable def rd_end : Code := (.seq (.region 20 opsRd20 false) (.seq (.seq (.region 21 opsRd21 false) (.cond (.tmp 80) (.seq (.region 22 opsRd22 false) .ret) .skip)) (.seq (.region 23 opsRd23 true) rd_fin)))
noncomputable def rd_two : Code := (.seq (.seq (.region 8 opsRd8 false) (.block 2 (.loop rd_l2))) rd_end)
noncomputable def code58 : Code := (.seq (.region 0 opsRd0 false) (.seq (.region 1 opsRd1 false) (.seq (.seq (.region 2 opsRd2 false) (.block 0 (.loop rd_l1))) rd_two)))
theorem body58 : Try.f58.body = some code58 := by kernel_rfl
section
variable {W0 : World} {b2 b3 b4 ba M : Nat} {Ds : List Nat} {m : List (List UInt8)}
/-- The frame of a round. -/
structure RF (b2 b3 b4 : Nat) (a : Act) : Prop where
  sz : a.tmps.size = 124
  t2 : a.eval (.tmp 2) = ptr b2
  t3 : a.eval (.tmp 3) = ptr b3
  t4 : a.eval (.tmp 4) = ptr b4
attribute [local irreducible] AnyK StepK
set_option maxHeartbeats 400000 in
theorem rd_c_any {l n b10 b12 : Nat} {c0 c1 c2 c3 c4 c5 c6 e0 e1 e2 e3 e4 e5 e6 : UInt8} {a1 : Act} {W1 : World} {Q : Exit → Act → World → Prop} (hg : isGood [c0, c1, c2, c3, c4, c5, c6] = true)
    (he : ∀ r, find m (nameOf [c0, c1, c2, c3, c4, c5, c6]) = some r → r = [e0, e1, e2, e3, e4, e5, e6]) (fr : RF b2 b3 b4 a1) (t10 : a1.eval (.tmp 10) = ptr b10) (t12 : a1.eval (.tmp 12) = ptr b12) (t13 : a1.eval (.tmp 13) = .bool (find m (nameOf [c0, c1, c2, c3, c4, c5, c6])).isSome)
    (i : RdI W0 b2 b3 b4 ba M Ds m W1) (w10 : Whole W1 b10 83 (r7 c0 c1 c2 c3 c4 c5 c6)) (w12 : Whole W1 b12 83 (r7 e0 e1 e2 e3 e4 e5 e6))
    (hN : ∀ a' m', RF b2 b3 b4 a' → a'.eval (.tmp 10) = ptr b10 → step1 m [c0, c1, c2, c3, c4, c5, c6] = some m' → Q .normal a' W1)
    (hR : ∀ a' W', RF b2 b3 b4 a' → step1 m [c0, c1, c2, c3, c4, c5, c6] = none → RdE W0 b2 b3 b4 Ds 6 W' → Else (fun k => k = b2 ∨ k = b3) W1 W' → Q .ret a' W') :
    rd_c.wpIn (Fence.wide.inRound l) n Try.prog Q a1 W1 := by
  obtain ⟨hsz, t2, t3, t4⟩ := fr
  unfold rd_c
  cases hf : find m (nameOf [c0, c1, c2, c3, c4, c5, c6]) with
  | none =>
    rw [hf] at t13
    have t13' : a1.eval (.tmp 13) = .bool false := t13
    refine wpIn_seq (region_l 6 (wideF_round _ _) (by kernel_rfl) (by kernel_rfl) ?_)
    intro K hK
    refine ListK.move (i := 0) (v := .bool false) rfl (by simp [t13']) ?_
    refine ListK.move (i := 1) (v := .bool false) rfl (by simp [hsz]) ?_
    refine ListK.passG (i := 2) (e := 57) (b' := false) rfl rfl (by simp [hsz]) rfl ?_
    refine ListK.passG (i := 3) (e := 57) (b' := false) rfl rfl (by simp [hsz]) rfl ?_
    refine ListK.passG (i := 4) (e := 57) (b' := false) rfl rfl (by simp [hsz]) rfl ?_
    refine ListK.pick (i := 5) (b := false) (v := .bool false) rfl (by simp [hsz]) (by simp) ?_
    refine ListK.done (hK _ _ ?_)
    clear hK K
    refine wpIn_cond (t := false) (by simp [hsz]) (wpIn_skip ?_)
    exact hN _ _ ⟨(by simp only [size_put, hsz]), (by simp [t2]), (by simp [t3]), (by simp [t4])⟩ (by simp [t10]) (step1_new hg hf)
  | some r =>
    rw [hf] at t13
    have t13' : a1.eval (.tmp 13) = .bool true := t13
    have hr := he r hf
    by_cases heq : r = [c0, c1, c2, c3, c4, c5, c6]
    · have hd : decide ([e0, e1, e2, e3, e4, e5, e6] ≠ [c0, c1, c2, c3, c4, c5, c6]) = false := by rw [← hr, heq]; simp
      refine wpIn_seq (region_l 6 (wideF_round _ _) (by kernel_rfl) (by kernel_rfl) ?_)
      intro K hK
      refine ListK.move (i := 0) (v := .bool true) rfl (by simp [t13']) ?_
      refine ListK.move (i := 1) (v := .bool true) rfl (by simp [hsz]) ?_
      refine ListK.load (i := 2) (p := ⟨b12, 0, none⟩) (v := rV e0 e1 e2 e3 e4 e5 e6) rfl (by simp [t12]) (ld83 w12) ?_ (hw := wanted_g (e := 57) (b' := true) rfl (by simp [hsz]) rfl)
      refine ListK.load (i := 3) (p := ⟨b10, 0, none⟩) (v := rV c0 c1 c2 c3 c4 c5 c6) rfl (by simp [t10]) (ld83 w10) ?_ (hw := wanted_g (e := 57) (b' := true) rfl (by simp [hsz]) rfl)
      refine ListK.bin (i := 4) (u := rV e0 e1 e2 e3 e4 e5 e6) (u' := rV c0 c1 c2 c3 c4 c5 c6) (v := .bool false) rfl (by simp [hsz]) (by simp [hsz]) (by rw [← hd]; exact neq83 _ _ _ _ _ _ _ _ _ _ _ _ _ _ _) ?_ (hw := wanted_g (e := 57) (b' := true) rfl (by simp [hsz]) rfl)
      refine ListK.pick (i := 5) (b := true) (v := .bool false) rfl (by simp [hsz]) (by simp [hsz]) ?_
      refine ListK.done (hK _ _ ?_)
      clear hK K
      refine wpIn_cond (t := false) (by simp [hsz]) (wpIn_skip ?_)
      exact hN _ _ ⟨(by simp only [size_put, hsz]), (by simp [t2]), (by simp [t3]), (by simp [t4])⟩ (by simp [t10]) (step1_old hg (by rw [hf, heq]))
    · have hd : decide ([e0, e1, e2, e3, e4, e5, e6] ≠ [c0, c1, c2, c3, c4, c5, c6]) = true := by rw [← hr]; simp only [decide_eq_true_eq]; exact heq
      refine wpIn_seq (region_l 6 (wideF_round _ _) (by kernel_rfl) (by kernel_rfl) ?_)
      intro K hK
      refine ListK.move (i := 0) (v := .bool true) rfl (by simp [t13']) ?_
      refine ListK.move (i := 1) (v := .bool true) rfl (by simp [hsz]) ?_
      refine ListK.load (i := 2) (p := ⟨b12, 0, none⟩) (v := rV e0 e1 e2 e3 e4 e5 e6) rfl (by simp [t12]) (ld83 w12) ?_ (hw := wanted_g (e := 57) (b' := true) rfl (by simp [hsz]) rfl)
      refine ListK.load (i := 3) (p := ⟨b10, 0, none⟩) (v := rV c0 c1 c2 c3 c4 c5 c6) rfl (by simp [t10]) (ld83 w10) ?_ (hw := wanted_g (e := 57) (b' := true) rfl (by simp [hsz]) rfl)
      refine ListK.bin (i := 4) (u := rV e0 e1 e2 e3 e4 e5 e6) (u' := rV c0 c1 c2 c3 c4 c5 c6) (v := .bool true) rfl (by simp [hsz]) (by simp [hsz]) (by rw [← hd]; exact neq83 _ _ _ _ _ _ _ _ _ _ _ _ _ _ _) ?_ (hw := wanted_g (e := 57) (b' := true) rfl (by simp [hsz]) rfl)
      refine ListK.pick (i := 5) (b := true) (v := .bool true) rfl (by simp [hsz]) (by simp [hsz]) ?_
      refine ListK.done (hK _ _ ?_)
      clear hK K
      refine wpIn_cond (t := true) (by simp [hsz]) ?_
      have hord := i.ord
      refine wpIn_seq (region_l 2 (wideF_round _ _) (by kernel_rfl) (by kernel_rfl) ?_)
      intro K hK
      refine ListK.store (i := 0) (u := .pointer (some ⟨b2, 0, none⟩)) (u' := .pointer none) rfl (by simp [t2]) (by simp) (st90 (i.w2.cell 0) (i.w2.frozen 0)) ?_
      refine ListK.store (i := 1) (u := .pointer (some ⟨b3, 0, none⟩)) (u' := .int .i64 6) rfl (by simp [t3]) (by simp) (st27 (((Else.refl (fun k => k = b2) W1).setCell (p := ⟨b2, 0, none⟩) (.inl rfl) (.pointer none)).whole (by omega) i.w3 |>.cell 0) (((Else.refl (fun k => k = b2) W1).setCell (p := ⟨b2, 0, none⟩) (.inl rfl) (.pointer none)).whole (by omega) i.w3 |>.frozen 0)) ?_
      refine ListK.done (hK _ _ (wpIn_ret ?_))
      exact hR _ _ ⟨(by simp only [size_put, hsz]), (by simp [t2]), (by simp [t3]), (by simp [t4])⟩ (step1_no hg hf heq) (i.err 6) (((Else.refl _ W1).setCell (p := ⟨b2, 0, none⟩) (.inl (.inl rfl)) _).setCell (p := ⟨b3, 0, none⟩) (.inl (.inr rfl)) _)
end
end Go.Proofs.YtmdlmmfbcnkanaaR
namespace Go.Proofs.YtmdlmmfbcnkanaaR
open Go.RowKit Go.Shelf
section
variable {W0 : World} {b2 b3 b4 ba M : Nat} {Ds : List Nat} {m : List (List UInt8)}
attribute [local irreducible] AnyK StepK
set_option maxHeartbeats 400000 in
theorem rd_18 {l n b10 : Nat} {c0 c1 c2 c3 c4 c5 c6 : UInt8} {m' : List (List UInt8)} {a1 : Act} {W1 : World} {Q : Exit → Act → World → Prop} (hg : isGood [c0, c1, c2, c3, c4, c5, c6] = true) (hs : step1 m [c0, c1, c2, c3, c4, c5, c6] = some m')
    (fr : RF b2 b3 b4 a1) (t10 : a1.eval (.tmp 10) = ptr b10) (i : RdI W0 b2 b3 b4 ba M Ds m W1) (w10 : Whole W1 b10 83 (r7 c0 c1 c2 c3 c4 c5 c6))
    (hN : ∀ a' W', RdI W0 b2 b3 b4 ba M Ds m' W' → Else (fun k => k = M) W1 W' → Q .normal a' W') :
    (Code.region 18 opsRd18 true).wpIn (Fence.wide.inRound l) n Try.prog Q a1 W1 := by
  obtain ⟨hsz, t2, t3, t4⟩ := fr
  have hbd := (Below.refl W1.heap.size W1).drew
  refine region_K (KpR (fun w : World => RdI W0 b2 b3 b4 ba M Ds m w ∧ Whole w b10 83 (r7 c0 c1 c2 c3 c4 c5 c6)) (fun j => j == 7)) (wideF_round _ _) (by kernel_rfl) Try.mixed ?_
  change AnyK _ _ _ _ 8 (Array.replicate 8 false) _ _
  have hR : (fun w : World => RdI W0 b2 b3 b4 ba M Ds m w ∧ Whole w b10 83 (r7 c0 c1 c2 c3 c4 c5 c6)) W1.drew := ⟨i.below hbd, w10.below hbd w10.lt⟩
  refine AnyK.load (i := 0) may_o (p := ⟨b4, 0, none⟩) (v := .pointer (some ⟨ba, 0, none⟩)) (by simp [t4]) (fun w hw => ld90 (hw.1.w4.cell 0)) hR ?_
  refine AnyK.nilCheck (i := 1) may_o (p := ⟨ba, 0, none⟩) (by simp [hsz]) hR ?_
  refine AnyK.field (i := 2) may_o (u := .pointer (some ⟨ba, 0, none⟩)) (v := .pointer (some ⟨ba, 3, none⟩)) (by simp [hsz]) (fun w => fa95_1 w) hR ?_
  refine AnyK.load (i := 3) may_o (p := ⟨ba, 3, none⟩) (v := .map (some M)) (by simp [hsz]) (fun w hw => ld93 (hw.1.wa.cell 3)) hR ?_
  refine AnyK.load (i := 4) may_o (p := ⟨b10, 0, none⟩) (v := rV c0 c1 c2 c3 c4 c5 c6) (by simp [t10]) (fun w hw => ld83 hw.2) hR ?_
  refine AnyK.load (i := 6) may_o (p := ⟨b10, 0, none⟩) (v := rV c0 c1 c2 c3 c4 c5 c6) (by simp [t10]) (fun w hw => ld83 hw.2) hR ?_
  refine AnyK.pick1 (i := 5) (by kernel_rfl) ?_
  refine StepK.call (i := 5) (f := 82) (vs := #[rV c0 c1 c2 c3 c4 c5 c6]) rfl (enters_of Try.func82 (by kernel_rfl) rfl) rfl (by simp [hsz]) ((name_any c0 c1 c2 c3 c4 c5 c6 W1.drew).mono ?_)
  rintro _ W2 ⟨rfl, hb2⟩
  have i2 := hR.1.below hb2
  have w102 := hR.2.below hb2 hR.2.lt
  obtain ⟨W3, hput, i3, he3⟩ := i2.put hg hs
  replace hR : (fun w : World => RdI W0 b2 b3 b4 ba M Ds m w ∧ Whole w b10 83 (r7 c0 c1 c2 c3 c4 c5 c6)) W2 := ⟨i2, w102⟩
  refine ⟨_, rfl, fun _ _ => hR, ?_⟩
  refine AnyK.pick1 (i := 7) (by kernel_rfl) ?_
  refine StepK.mapUp (i := 7) (u := .map (some M)) (u' := nameV (nameOf [c0, c1, c2, c3, c4, c5, c6])) (u'' := rV c0 c1 c2 c3 c4 c5 c6) rfl (by simp [hsz]) (by simp [hsz]) (by simp [hsz]) hput (fun h _ => absurd h (by decide)) ?_
  refine AnyK.done (by kernel_rfl) ?_
  exact hN _ _ i3 ((Else.of_below _ (hbd.trans hb2)).trans he3)
set_option maxHeartbeats 1000000 in
theorem rd_body_any {l n c : Nat} {A : Option Addr} {p : List UInt8} {a : Act} {W1 : World} {Q : Exit → Act → World → Prop} (hl : p.length ≤ c) (hs : BytesAt W1 W1.heap.size A p)
    (fr : RF b2 b3 b4 a) (hdf : a.defers = []) (t9 : a.eval (.tmp 9) = .slice A p.length c) (i : RdI W0 b2 b3 b4 ba M Ds m W1)
    (hN : ∀ a' W' m', step1 m p = some m' → RdI W0 b2 b3 b4 ba M Ds m' W' → Else (fun k => k = M ∨ k = b2 ∨ k = b3) W1 W' → Q .normal a' W')
    (hRt : ∀ a' W', step1 m p = none → RdE W0 b2 b3 b4 Ds 6 W' → Else (fun k => k = M ∨ k = b2 ∨ k = b3) W1 W' → Q .ret a' W') :
    rd_body.wpIn (Fence.wide.inRound l) n Try.prog Q a W1 := by
  obtain ⟨hsz, t2, t3, t4⟩ := fr
  obtain ⟨c0, c1, c2, c3, c4, c5, c6, hz, hp⟩ : ∃ c0 c1 c2 c3 c4 c5 c6, asRec p = r7 c0 c1 c2 c3 c4 c5 c6 ∧ (isGood p = true → p = [c0, c1, c2, c3, c4, c5, c6]) := by
    cases hg : isGood p with
    | false => exact ⟨0, 0, 0, 0, 0, 0, 0, by simp [asRec, hg], fun h => by cases h⟩
    | true =>
      obtain ⟨c0, c1, c2, c3, c4, c5, c6, rfl⟩ := len7 (good_seven hg)
      exact ⟨c0, c1, c2, c3, c4, c5, c6, by simp [asRec, hg, recC], fun _ => rfl⟩
  unfold rd_body
  refine wpIn_block ?_
  have hgd := good_any A p c W1 hl hs
  refine wpIn_seq (region_l 8 (wideF_round _ _) (by kernel_rfl) (by kernel_rfl) ?_)
  intro K hK
  refine ListK.move (i := 0) (v := .slice A p.length c) rfl (by simp [t9]) ?_
  refine ListK.call (i := 1) (vs := #[.slice A p.length c]) rfl (enters_of Try.func67 (by kernel_rfl) rfl) (by simp [hsz]) ((hgd).mono ?_)
  rintro _ W2 ⟨h67, hb2⟩
  rw [hz] at h67
  subst h67
  refine ⟨_, rfl, ?_⟩
  refine ListK.move (i := 2) (v := .tuple #[rV c0 c1 c2 c3 c4 c5 c6, .bool (isGood p)]) rfl (by simp [hsz]) ?_
  refine ListK.extract (i := 3) (u := .tuple #[rV c0 c1 c2 c3 c4 c5 c6, .bool (isGood p)]) (v := rV c0 c1 c2 c3 c4 c5 c6) rfl (by simp [hsz]) (ex0 _ _ _) ?_
  refine ListK.extract (i := 4) (u := .tuple #[rV c0 c1 c2 c3 c4 c5 c6, .bool (isGood p)]) (v := .bool (isGood p)) rfl (by simp [hsz]) (ex1 _ _ _) ?_
  refine ListK.alloc (i := 5) rfl (al83 W2) ?_
  refine ListK.store (i := 6) (u := .pointer (some ⟨W2.heap.size, 0, none⟩)) (u' := rV c0 c1 c2 c3 c4 c5 c6) rfl (by simp [hsz]) (by simp [hsz]) (st83 (Whole.new W2 83 z7)) ?_
  refine ListK.assign (i := 7) (v := .bool (isGood p)) rfl (by simp [hsz]) ?_
  refine ListK.done (hK _ _ ?_)
  clear hK K
  have w10 := put7_whole (Whole.new W2 83 z7) (u8V c0) (u8V c1) (u8V c2) (u8V c3) (u8V c4) (u8V c5) (u8V c6)
  have hb3 : Below W2.heap.size W2 (put7 (W2.alloc (.cells z7 83)) W2.heap.size (u8V c0) (u8V c1) (u8V c2) (u8V c3) (u8V c4) (u8V c5) (u8V c6)) := ((Below.refl _ W2).alloc (Nat.le_refl _) _).trans ((put7_else (w := W2.alloc (.cells z7 83)) (b := W2.heap.size) (u8V c0) (u8V c1) (u8V c2) (u8V c3) (u8V c4) (u8V c5) (u8V c6)).below (by simp) (fun k hk e => by omega))
  have i3 := (i.below hb2).below hb3
  have hB3 := hb2.trans (hb3.mono hb2.size)
  generalize hq10 : W2.heap.size = b10 at *
  generalize put7 (W2.alloc (.cells z7 83)) b10 (u8V c0) (u8V c1) (u8V c2) (u8V c3) (u8V c4) (u8V c5) (u8V c6) = W3 at *
  generalize hA : Act.put _ _ _ = a1
  have hz_a1 : a1.tmps.size = 124 := by rw [← hA]; simp only [size_put, hsz]
  have u2 : a1.eval (.tmp 2) = .pointer (some ⟨b2, 0, none⟩) := by rw [← hA]; exact (by simp [t2])
  have u3 : a1.eval (.tmp 3) = .pointer (some ⟨b3, 0, none⟩) := by rw [← hA]; exact (by simp [t3])
  have u4 : a1.eval (.tmp 4) = .pointer (some ⟨b4, 0, none⟩) := by rw [← hA]; exact (by simp [t4])
  have u10 : a1.eval (.tmp 10) = .pointer (some ⟨b10, 0, none⟩) := by rw [← hA]; exact (by simp [hsz])
  have u11 : a1.eval (.tmp 11) = .bool (isGood p) := by rw [← hA]; exact (by simp [hsz])
  have hd_a1 : a1.defers = [] := by rw [← hA]; simp only [defers_put, hdf]
  clear hA
  cases hg : isGood p with
  | false =>
    rw [hg] at u11
    refine wpIn_seq (wpIn_seq (region_l 2 (wideF_round _ _) (by kernel_rfl) (by kernel_rfl) ?_))
    intro K hK
    refine ListK.move (i := 0) (v := .bool false) rfl (by simp [u11]) ?_
    refine ListK.un (i := 1) (u := .bool false) (v := .bool true) rfl (by simp [hz_a1]) (not4 _ _) ?_
    refine ListK.done (hK _ _ ?_)
    clear hK K
    refine wpIn_cond (t := true) (by simp [hz_a1]) (wpIn_exit ?_)
    exact hN _ _ m (step1_bad hg) i3 (Else.of_below _ hB3)
  | true =>
    rw [hg] at u11
    obtain rfl := hp hg
    refine wpIn_seq (wpIn_seq (region_l 2 (wideF_round _ _) (by kernel_rfl) (by kernel_rfl) ?_))
    intro K hK
    refine ListK.move (i := 0) (v := .bool true) rfl (by simp [u11]) ?_
    refine ListK.un (i := 1) (u := .bool true) (v := .bool false) rfl (by simp [hz_a1]) (not4 _ _) ?_
    refine ListK.done (hK _ _ ?_)
    clear hK K
    refine wpIn_cond (t := false) (by simp [hz_a1]) (wpIn_skip ?_)
    generalize hA : Act.put _ _ _ = a2
    have hz_a2 : a2.tmps.size = 124 := by rw [← hA]; simp only [size_put, hz_a1]
    have v2 : a2.eval (.tmp 2) = .pointer (some ⟨b2, 0, none⟩) := by rw [← hA]; exact (by simp [u2])
    have v3 : a2.eval (.tmp 3) = .pointer (some ⟨b3, 0, none⟩) := by rw [← hA]; exact (by simp [u3])
    have v4 : a2.eval (.tmp 4) = .pointer (some ⟨b4, 0, none⟩) := by rw [← hA]; exact (by simp [u4])
    have v10 : a2.eval (.tmp 10) = .pointer (some ⟨b10, 0, none⟩) := by rw [← hA]; exact (by simp [u10])
    have hd_a2 : a2.defers = [] := by rw [← hA]; simp only [defers_put, hd_a1]
    clear hA
    obtain ⟨e0, e1, e2, e3, e4, e5, e6, hv, he⟩ : ∃ e0 e1 e2 e3 e4 e5 e6, ((find m (nameOf [c0, c1, c2, c3, c4, c5, c6])).map recC).getD z7 = r7 e0 e1 e2 e3 e4 e5 e6 ∧ ∀ r, find m (nameOf [c0, c1, c2, c3, c4, c5, c6]) = some r → r = [e0, e1, e2, e3, e4, e5, e6] := by
      cases hf : find m (nameOf [c0, c1, c2, c3, c4, c5, c6]) with
      | none => exact ⟨0, 0, 0, 0, 0, 0, 0, rfl, fun r e => by cases e⟩
      | some r =>
        obtain ⟨e0, e1, e2, e3, e4, e5, e6, rfl⟩ := len7 (good_seven (i.gd r (find_mem hf).1))
        exact ⟨e0, e1, e2, e3, e4, e5, e6, rfl, fun r e => by cases e; rfl⟩
    have hlk : ∀ w, RdI W0 b2 b3 b4 ba M Ds m w → (Instr.lookup 93 (.map (some M)) (nameV (nameOf [c0, c1, c2, c3, c4, c5, c6])) true).run Try.prog w = .ok (.tuple #[rV e0 e1 e2 e3 e4 e5 e6, .bool (find m (nameOf [c0, c1, c2, c3, c4, c5, c6])).isSome]) w := by
      intro w hi
      have h1 := hi.mp.look2 kl97 (nameOf [c0, c1, c2, c3, c4, c5, c6]) zv83
      rw [getK_rec] at h1
      rw [h1]
      have h2 : ((find m (nameOf [c0, c1, c2, c3, c4, c5, c6])).map fun r => Value.agg (recC r)).getD (.agg z7) = .agg (((find m (nameOf [c0, c1, c2, c3, c4, c5, c6])).map recC).getD z7) := by
        cases find m (nameOf [c0, c1, c2, c3, c4, c5, c6]) <;> rfl
      rw [h2, hv]
      cases find m (nameOf [c0, c1, c2, c3, c4, c5, c6]) <;> rfl
    have hgr : ∀ w w', (fun w : World => RdI W0 b2 b3 b4 ba M Ds m w ∧ Whole w b10 83 (r7 c0 c1 c2 c3 c4 c5 c6) ∧ Below W3.heap.size W3 w) w → Below w.heap.size w w' → (fun w : World => RdI W0 b2 b3 b4 ba M Ds m w ∧ Whole w b10 83 (r7 c0 c1 c2 c3 c4 c5 c6) ∧ Below W3.heap.size W3 w) w' := fun w w' h hb => ⟨h.1.below hb, h.2.1.below hb h.2.1.lt, h.2.2.trans (hb.mono h.2.2.size)⟩
    have hcont : ∀ (a' : Act) (W' : World) (b12 : Nat), RF b2 b3 b4 a' → a'.eval (.tmp 10) = ptr b10 → a'.eval (.tmp 12) = ptr b12 → a'.eval (.tmp 13) = .bool (find m (nameOf [c0, c1, c2, c3, c4, c5, c6])).isSome → RdI W0 b2 b3 b4 ba M Ds m W' → Whole W' b10 83 (r7 c0 c1 c2 c3 c4 c5 c6) → Whole W' b12 83 (r7 e0 e1 e2 e3 e4 e5 e6) → Below W3.heap.size W3 W' →
        rd_c.wpIn (Fence.wide.inRound l) n Try.prog (Exit.then ((Code.region 18 opsRd18 true).wpIn (Fence.wide.inRound l) n Try.prog (Exit.inBlock 5 Q)) (Exit.inBlock 5 Q)) a' W' := by
      intro a' W' b12 fr' q10 q12 q13 i4 w104 w124 hB4
      have hE4 : Else (fun k => k = M ∨ k = b2 ∨ k = b3) W1 W' := Else.of_below _ (hB3.trans (hB4.mono hB3.size))
      refine rd_c_any hg he fr' q10 q12 q13 i4 w104 w124 (fun a'' m' fr'' p10 hst => ?_) (fun a'' W'' fr'' hst hre hel => ?_)
      · exact rd_18 hg hst fr'' p10 i4 w104 (fun a3 W5 i5 he5 => hN a3 W5 m' hst i5 (hE4.trans (he5.mono (fun k _ e => .inl e))))
      · exact hRt a'' W'' hst hre (hE4.trans (hel.mono (fun k _ e => .inr e)))
    refine wpIn_seq (wpIn_seq (region_K (KpR (fun w : World => RdI W0 b2 b3 b4 ba M Ds m w ∧ Whole w b10 83 (r7 c0 c1 c2 c3 c4 c5 c6) ∧ Below W3.heap.size W3 w) (fun j => j == 11)) (wideF_round _ _) (by kernel_rfl) Try.mixed ?_))
    change AnyK _ _ _ _ 13 (Array.replicate 13 false) _ _
    have hR : (fun w : World => RdI W0 b2 b3 b4 ba M Ds m w ∧ Whole w b10 83 (r7 c0 c1 c2 c3 c4 c5 c6) ∧ Below W3.heap.size W3 w) W3.drew := ⟨i3.below (Below.refl W3.heap.size W3).drew, w10.below (Below.refl W3.heap.size W3).drew w10.lt, (Below.refl W3.heap.size W3).drew⟩
    refine AnyK.load (i := 0) may_o (p := ⟨b4, 0, none⟩) (v := .pointer (some ⟨ba, 0, none⟩)) (by simp [v4]) (fun w hw => ld90 (hw.1.w4.cell 0)) hR ?_
    refine AnyK.nilCheck (i := 1) (may_free rfl (by kernel_rfl) (by kernel_rfl) (by kernel_rfl)) (p := ⟨ba, 0, none⟩) (by simp [hz_a2]) trivial ?_
    refine AnyK.field (i := 2) (may_free rfl (by kernel_rfl) (by kernel_rfl) (by kernel_rfl)) (u := .pointer (some ⟨ba, 0, none⟩)) (v := .pointer (some ⟨ba, 3, none⟩)) (by simp [hz_a2]) (fun w => fa95_1 w) trivial ?_
    refine AnyK.load (i := 3) may_o (p := ⟨ba, 3, none⟩) (v := .map (some M)) (by simp [hz_a2]) (fun w hw => ld93 (hw.1.wa.cell 3)) hR ?_
    refine AnyK.load (i := 4) may_o (p := ⟨b10, 0, none⟩) (v := rV c0 c1 c2 c3 c4 c5 c6) (by simp [v10]) (fun w hw => ld83 hw.2.1) hR ?_
    refine AnyK.pick2 (i := 5) (j := 10) (by kernel_rfl) ?_ ?_
    · refine StepK.call (i := 5) (f := 82) (vs := #[rV c0 c1 c2 c3 c4 c5 c6]) rfl (enters_of Try.func82 (by kernel_rfl) rfl) rfl (by simp [hz_a2]) ((name_any c0 c1 c2 c3 c4 c5 c6 (W3.drew)).mono ?_)
      rintro _ V5 ⟨rfl, hv5⟩
      replace hR : (fun w : World => RdI W0 b2 b3 b4 ba M Ds m w ∧ Whole w b10 83 (r7 c0 c1 c2 c3 c4 c5 c6) ∧ Below W3.heap.size W3 w) V5 := hgr _ _ hR hv5
      refine ⟨_, rfl, fun _ _ => hR, ?_⟩
      refine AnyK.pick2 (i := 6) (j := 10) (by kernel_rfl) ?_ ?_
      · refine StepK.look2 (i := 6) (u := .map (some M)) (u' := nameV (nameOf [c0, c1, c2, c3, c4, c5, c6])) rfl (by simp [hz_a2]) (by simp [hz_a2]) (hlk _ hR.1) (fun _ h => h) ?_
        refine AnyK.move (i := 7) (may_free rfl (by kernel_rfl) (by kernel_rfl) (by kernel_rfl)) (v := .tuple #[rV e0 e1 e2 e3 e4 e5 e6, .bool (find m (nameOf [c0, c1, c2, c3, c4, c5, c6])).isSome]) (by simp [hz_a2]) trivial ?_
        refine AnyK.extract (i := 8) (may_free rfl (by kernel_rfl) (by kernel_rfl) (by kernel_rfl)) (u := .tuple #[rV e0 e1 e2 e3 e4 e5 e6, .bool (find m (nameOf [c0, c1, c2, c3, c4, c5, c6])).isSome]) (v := rV e0 e1 e2 e3 e4 e5 e6) (by simp [hz_a2]) (ex0 _ _) trivial ?_
        refine AnyK.extract (i := 9) (may_free rfl (by kernel_rfl) (by kernel_rfl) (by kernel_rfl)) (u := .tuple #[rV e0 e1 e2 e3 e4 e5 e6, .bool (find m (nameOf [c0, c1, c2, c3, c4, c5, c6])).isSome]) (v := .bool (find m (nameOf [c0, c1, c2, c3, c4, c5, c6])).isSome) (by simp [hz_a2]) (ex1 _ _) trivial ?_
        refine AnyK.pick1 (i := 10) (by kernel_rfl) ?_
        refine StepK.alloc (i := 10) rfl (al83 (V5)) (fun _ _ => hgr _ _ hR ((Below.refl _ (V5)).alloc (Nat.le_refl _) _)) ?_
        have h12 := Whole.new (V5) 83 z7
        have hn12 := hR.2.1.lt
        have ho12 := hR.1.lt
        have hd12 : ∀ D, D ∈ Ds → D < (V5).heap.size := fun D hD => hR.1.mks.lt hD
        have hl12 := hR.2.2.size
        replace hR : (fun w : World => RdI W0 b2 b3 b4 ba M Ds m w ∧ Whole w b10 83 (r7 c0 c1 c2 c3 c4 c5 c6) ∧ Below W3.heap.size W3 w) ((V5).alloc (.cells z7 83)) := hgr _ _ hR ((Below.refl _ (V5)).alloc (Nat.le_refl _) _)
        generalize hq12 : (V5).heap.size = b12 at *
        generalize (V5).alloc (.cells z7 83) = V10 at *
        refine AnyK.pick1 (i := 11) (by kernel_rfl) ?_
        refine StepK.store (i := 11) (u := ptr b12) (u' := rV e0 e1 e2 e3 e4 e5 e6) rfl (by simp [hz_a2]) (by simp [hz_a2]) (st83 h12) (fun h _ => absurd h (by decide)) ?_
        refine AnyK.assign (i := 12) (may_free rfl (by kernel_rfl) (by kernel_rfl) (by kernel_rfl)) (v := .bool (find m (nameOf [c0, c1, c2, c3, c4, c5, c6])).isSome) (by simp [hz_a2]) trivial ?_
        refine AnyK.done (by kernel_rfl) ?_
        exact hcont _ _ b12 ⟨by simp only [size_put, hz_a2], (by simp [v2]), (by simp [v3]), (by simp [v4])⟩ (by simp [v10]) (by simp [hz_a2]) (by simp [hz_a2]) (hR.1.else (put7_else (w := V10) (b := b12) (u8V e0) (u8V e1) (u8V e2) (u8V e3) (u8V e4) (u8V e5) (u8V e6)) (fun k hk e => by omega) (fun D hD e => by have := hd12 D hD; omega)) ((put7_else (w := V10) (b := b12) (u8V e0) (u8V e1) (u8V e2) (u8V e3) (u8V e4) (u8V e5) (u8V e6)).whole (by omega) hR.2.1) (put7_whole h12 (u8V e0) (u8V e1) (u8V e2) (u8V e3) (u8V e4) (u8V e5) (u8V e6)) (hR.2.2.trans ((put7_else (w := V10) (b := b12) (u8V e0) (u8V e1) (u8V e2) (u8V e3) (u8V e4) (u8V e5) (u8V e6)).below hR.2.2.size (fun k hk e => by omega)))
      · refine StepK.alloc (i := 10) rfl (al83 (V5)) (fun _ _ => hgr _ _ hR ((Below.refl _ (V5)).alloc (Nat.le_refl _) _)) ?_
        have h12 := Whole.new (V5) 83 z7
        have hn12 := hR.2.1.lt
        have ho12 := hR.1.lt
        have hd12 : ∀ D, D ∈ Ds → D < (V5).heap.size := fun D hD => hR.1.mks.lt hD
        have hl12 := hR.2.2.size
        replace hR : (fun w : World => RdI W0 b2 b3 b4 ba M Ds m w ∧ Whole w b10 83 (r7 c0 c1 c2 c3 c4 c5 c6) ∧ Below W3.heap.size W3 w) ((V5).alloc (.cells z7 83)) := hgr _ _ hR ((Below.refl _ (V5)).alloc (Nat.le_refl _) _)
        generalize hq12 : (V5).heap.size = b12 at *
        generalize (V5).alloc (.cells z7 83) = V10 at *
        refine AnyK.pick1 (i := 6) (by kernel_rfl) ?_
        refine StepK.look2 (i := 6) (u := .map (some M)) (u' := nameV (nameOf [c0, c1, c2, c3, c4, c5, c6])) rfl (by simp [hz_a2]) (by simp [hz_a2]) (hlk _ hR.1) (fun _ h => h) ?_
        refine AnyK.move (i := 7) (may_free rfl (by kernel_rfl) (by kernel_rfl) (by kernel_rfl)) (v := .tuple #[rV e0 e1 e2 e3 e4 e5 e6, .bool (find m (nameOf [c0, c1, c2, c3, c4, c5, c6])).isSome]) (by simp [hz_a2]) trivial ?_
        refine AnyK.extract (i := 8) (may_free rfl (by kernel_rfl) (by kernel_rfl) (by kernel_rfl)) (u := .tuple #[rV e0 e1 e2 e3 e4 e5 e6, .bool (find m (nameOf [c0, c1, c2, c3, c4, c5, c6])).isSome]) (v := rV e0 e1 e2 e3 e4 e5 e6) (by simp [hz_a2]) (ex0 _ _) trivial ?_
        refine AnyK.extract (i := 9) (may_free rfl (by kernel_rfl) (by kernel_rfl) (by kernel_rfl)) (u := .tuple #[rV e0 e1 e2 e3 e4 e5 e6, .bool (find m (nameOf [c0, c1, c2, c3, c4, c5, c6])).isSome]) (v := .bool (find m (nameOf [c0, c1, c2, c3, c4, c5, c6])).isSome) (by simp [hz_a2]) (ex1 _ _) trivial ?_
        refine AnyK.pick1 (i := 11) (by kernel_rfl) ?_
        refine StepK.store (i := 11) (u := ptr b12) (u' := rV e0 e1 e2 e3 e4 e5 e6) rfl (by simp [hz_a2]) (by simp [hz_a2]) (st83 h12) (fun h _ => absurd h (by decide)) ?_
        refine AnyK.assign (i := 12) (may_free rfl (by kernel_rfl) (by kernel_rfl) (by kernel_rfl)) (v := .bool (find m (nameOf [c0, c1, c2, c3, c4, c5, c6])).isSome) (by simp [hz_a2]) trivial ?_
        refine AnyK.done (by kernel_rfl) ?_
        exact hcont _ _ b12 ⟨by simp only [size_put, hz_a2], (by simp [v2]), (by simp [v3]), (by simp [v4])⟩ (by simp [v10]) (by simp [hz_a2]) (by simp [hz_a2]) (hR.1.else (put7_else (w := V10) (b := b12) (u8V e0) (u8V e1) (u8V e2) (u8V e3) (u8V e4) (u8V e5) (u8V e6)) (fun k hk e => by omega) (fun D hD e => by have := hd12 D hD; omega)) ((put7_else (w := V10) (b := b12) (u8V e0) (u8V e1) (u8V e2) (u8V e3) (u8V e4) (u8V e5) (u8V e6)).whole (by omega) hR.2.1) (put7_whole h12 (u8V e0) (u8V e1) (u8V e2) (u8V e3) (u8V e4) (u8V e5) (u8V e6)) (hR.2.2.trans ((put7_else (w := V10) (b := b12) (u8V e0) (u8V e1) (u8V e2) (u8V e3) (u8V e4) (u8V e5) (u8V e6)).below hR.2.2.size (fun k hk e => by omega)))
    · refine StepK.alloc (i := 10) rfl (al83 (W3.drew)) (fun _ _ => hgr _ _ hR ((Below.refl _ (W3.drew)).alloc (Nat.le_refl _) _)) ?_
      have h12 := Whole.new (W3.drew) 83 z7
      have hn12 := hR.2.1.lt
      have ho12 := hR.1.lt
      have hd12 : ∀ D, D ∈ Ds → D < (W3.drew).heap.size := fun D hD => hR.1.mks.lt hD
      have hl12 := hR.2.2.size
      replace hR : (fun w : World => RdI W0 b2 b3 b4 ba M Ds m w ∧ Whole w b10 83 (r7 c0 c1 c2 c3 c4 c5 c6) ∧ Below W3.heap.size W3 w) ((W3.drew).alloc (.cells z7 83)) := hgr _ _ hR ((Below.refl _ (W3.drew)).alloc (Nat.le_refl _) _)
      generalize hq12 : (W3.drew).heap.size = b12 at *
      generalize (W3.drew).alloc (.cells z7 83) = V10 at *
      refine AnyK.pick1 (i := 5) (by kernel_rfl) ?_
      refine StepK.call (i := 5) (f := 82) (vs := #[rV c0 c1 c2 c3 c4 c5 c6]) rfl (enters_of Try.func82 (by kernel_rfl) rfl) rfl (by simp [hz_a2]) ((name_any c0 c1 c2 c3 c4 c5 c6 (V10)).mono ?_)
      rintro _ V5 ⟨rfl, hv5⟩
      replace hR : (fun w : World => RdI W0 b2 b3 b4 ba M Ds m w ∧ Whole w b10 83 (r7 c0 c1 c2 c3 c4 c5 c6) ∧ Below W3.heap.size W3 w) V5 := hgr _ _ hR hv5
      replace h12 := h12.below hv5 h12.lt
      refine ⟨_, rfl, fun _ _ => hR, ?_⟩
      refine AnyK.pick1 (i := 6) (by kernel_rfl) ?_
      refine StepK.look2 (i := 6) (u := .map (some M)) (u' := nameV (nameOf [c0, c1, c2, c3, c4, c5, c6])) rfl (by simp [hz_a2]) (by simp [hz_a2]) (hlk _ hR.1) (fun _ h => h) ?_
      refine AnyK.move (i := 7) (may_free rfl (by kernel_rfl) (by kernel_rfl) (by kernel_rfl)) (v := .tuple #[rV e0 e1 e2 e3 e4 e5 e6, .bool (find m (nameOf [c0, c1, c2, c3, c4, c5, c6])).isSome]) (by simp [hz_a2]) trivial ?_
      refine AnyK.extract (i := 8) (may_free rfl (by kernel_rfl) (by kernel_rfl) (by kernel_rfl)) (u := .tuple #[rV e0 e1 e2 e3 e4 e5 e6, .bool (find m (nameOf [c0, c1, c2, c3, c4, c5, c6])).isSome]) (v := rV e0 e1 e2 e3 e4 e5 e6) (by simp [hz_a2]) (ex0 _ _) trivial ?_
      refine AnyK.extract (i := 9) (may_free rfl (by kernel_rfl) (by kernel_rfl) (by kernel_rfl)) (u := .tuple #[rV e0 e1 e2 e3 e4 e5 e6, .bool (find m (nameOf [c0, c1, c2, c3, c4, c5, c6])).isSome]) (v := .bool (find m (nameOf [c0, c1, c2, c3, c4, c5, c6])).isSome) (by simp [hz_a2]) (ex1 _ _) trivial ?_
      refine AnyK.pick1 (i := 11) (by kernel_rfl) ?_
      refine StepK.store (i := 11) (u := ptr b12) (u' := rV e0 e1 e2 e3 e4 e5 e6) rfl (by simp [hz_a2]) (by simp [hz_a2]) (st83 h12) (fun h _ => absurd h (by decide)) ?_
      refine AnyK.assign (i := 12) (may_free rfl (by kernel_rfl) (by kernel_rfl) (by kernel_rfl)) (v := .bool (find m (nameOf [c0, c1, c2, c3, c4, c5, c6])).isSome) (by simp [hz_a2]) trivial ?_
      refine AnyK.done (by kernel_rfl) ?_
      exact hcont _ _ b12 ⟨by simp only [size_put, hz_a2], (by simp [v2]), (by simp [v3]), (by simp [v4])⟩ (by simp [v10]) (by simp [hz_a2]) (by simp [hz_a2]) (hR.1.else (put7_else (w := V5) (b := b12) (u8V e0) (u8V e1) (u8V e2) (u8V e3) (u8V e4) (u8V e5) (u8V e6)) (fun k hk e => by omega) (fun D hD e => by have := hd12 D hD; omega)) ((put7_else (w := V5) (b := b12) (u8V e0) (u8V e1) (u8V e2) (u8V e3) (u8V e4) (u8V e5) (u8V e6)).whole (by omega) hR.2.1) (put7_whole h12 (u8V e0) (u8V e1) (u8V e2) (u8V e3) (u8V e4) (u8V e5) (u8V e6)) (hR.2.2.trans ((put7_else (w := V5) (b := b12) (u8V e0) (u8V e1) (u8V e2) (u8V e3) (u8V e4) (u8V e5) (u8V e6)).below hR.2.2.size (fun k hk e => by omega)))
end
end Go.Proofs.YtmdlmmfbcnkanaaR
namespace Go.Proofs.YtmdlmmfbcnkanaaR
open Go.RowKit Go.Shelf
section
variable {W0 : World} {b2 b3 b4 ba M : Nat} {Ds : List Nat} {m : List (List UInt8)}
theorem takeUp_next {m mj : List (List UInt8)} {ps : List (List UInt8)} {j : Nat} {p : List UInt8} (h : takeUp m ((ps.take j).filter isGood) = some mj) (hp : ps[j]? = some p) : takeUp m ((ps.take (j + 1)).filter isGood) = step1 mj p := by
  have h1 : ps.take (j + 1) = ps.take j ++ [p] := by
    rw [List.take_add_one, hp]
    rfl
  rw [h1, List.filter_append, takeUp_append, h]
  rfl
theorem takeUp_none {m : List (List UInt8)} {ps : List (List UInt8)} {j : Nat} (h : takeUp m ((ps.take j).filter isGood) = none) : takeUp m (ps.filter isGood) = none := by
  have h1 : ps = ps.take j ++ ps.drop j := (List.take_append_drop j ps).symm
  rw [h1, List.filter_append, takeUp_append, h]
  rfl
theorem fold1 (t : Array Value) (k : Nat) (v : Value) : (#[k].zip #[v]).foldl (fun t (p, v) => t.setIfInBounds p v) t = t.setIfInBounds k v := by simp
set_option maxHeartbeats 400000 in
theorem rd_range_any {c bb : Nat} {A : Option Addr} {l : List UInt8} {a : Act} {W : World} {Q : Exit → Act → World → Prop} (hl : l.length ≤ 100000) (hc : l.length ≤ c) (hs : BytesAt W0 W0.heap.size A l) (fr : RF b2 b3 b4 a) (t37 : a.eval (.tmp 37) = .func (.func 85) #[] #[ptr bb])
    (wb : Whole W bb 31 #[.slice A l.length c]) (hbb : b4 < bb) (hbD : bb ∉ Ds) (i : RdI W0 b2 b3 b4 ba M Ds m W)
    (hN : ∀ D W' m', takeUp m (goods l) = some m' → RdI W0 b2 b3 b4 ba M (D :: Ds) m' W' → Q .normal { a with defers := mark D :: a.defers } W')
    (hRt : ∀ D W', takeUp m (goods l) = none → RdE W0 b2 b3 b4 (D :: Ds) 6 W' → Q .ret { a with defers := mark D :: a.defers } W') :
    rd_range.wpIn Fence.wide 5 Try.prog Q a W := by
  obtain ⟨hsz, t2, t3, t4⟩ := fr
  obtain ⟨o1, o2, o3, o4, o5⟩ := i.ord
  have hlt4 := i.lt
  have hltb := wb.lt
  obtain ⟨ps, hps⟩ : ∃ ps, ps = pieces [] l := ⟨_, rfl⟩
  unfold rd_range
  refine range_ix (bb := bb) (N := ps.length) (Z := fun W => BytesAt W W0.heap.size A l) rfl (by omega) t37 trivial (enters_of Try.func85 (by kernel_rfl) rfl) (by rw [hps]; exact pieces_it 4 A c W0.heap.size bb l hl hc W wb) (Below.refl _ _) wb.lt (fun i => rfl)
    (fun j W' => ∃ mj, takeUp m ((ps.take j).filter isGood) = some mj ∧ RdI W0 b2 b3 b4 ba M Ds mj W' ∧ W.heap.size ≤ W'.heap.size) (fun c' j W' => c' = .ret ∧ takeUp m (ps.filter isGood) = none ∧ RdE W0 b2 b3 b4 Ds 6 W') ?_ ?_ ?_ ⟨m, rfl, i, Nat.le_refl _⟩
    (fun j a' _ => RF b2 b3 b4 a' ∧ a'.defers = [] ∧ a'.eval (.tmp 9) = .slice (adr A (posP ps j)) (ps[j]?.getD []).length (c - posP ps j)) (fun j a' _ _ _ _ h _ _ => h) ?_ ?_ ?_ ?_
  · rintro j X Y row ⟨mj, h1, h2, h3⟩ hg hr
    refine ⟨mj, h1, h2.else (Else.of_grown hg) (fun k hk e => ?_) (fun D hD e => ?_), Nat.le_trans h3 hg.size⟩
    · rcases hr k e.symm with h | ⟨h, _⟩ <;> omega
    · have := i.mks.lt hD
      rcases hr D e.symm with h | ⟨h, _⟩
      · exact hbD (h ▸ hD)
      · omega
  · rintro c' j X Y row ⟨h0, h1, h2⟩ hg hr
    refine ⟨h0, h1, h2.else (Else.of_grown hg) (fun k hk e => ?_) (fun D hD e => ?_)⟩
    · rcases hr k e.symm with h | ⟨h, _⟩ <;> omega
    · have := i.mks.lt hD
      rcases hr D e.symm with h | ⟨h, _⟩
      · exact hbD (h ▸ hD)
      · omega
  · rintro j X ⟨mj, _, h2, _⟩
    exact hs.below h2.low (Nat.le_refl _)
  · intro ly j W1 K hj hi hK
    unfold rd_as
    have hv : encP A c l j = #[.slice (adr A (posP ps j)) (ps[j]?.getD []).length (c - posP ps j)] := by rw [hps]; rfl
    rw [hv, fold1]
    refine region_l 1 (wideF_round _ _) (by kernel_rfl) (by kernel_rfl) ?_
    intro KK hKK
    refine ListK.assign (i := 0) (v := .slice (adr A (posP ps j)) (ps[j]?.getD []).length (c - posP ps j)) rfl (by simp [Act.eval, hsz]) ?_
    refine ListK.done (hKK _ _ ?_)
    have hput : ∀ v : Value, (Act.mk (a.tmps.setIfInBounds 38 v) []) = (Act.mk a.tmps []).put (some 38) v := fun _ => rfl
    refine hK _ _ (KeepsFrom.refl _ _) rfl hi ⟨⟨?_, ?_, ?_, ?_⟩, rfl, ?_⟩
    · simp [Act.put, hsz]
    · rw [hput]
      rw [ev_ne (by omega), ev_ne (by omega)]
      exact t2
    · rw [hput]
      rw [ev_ne (by omega), ev_ne (by omega)]
      exact t3
    · rw [hput]
      rw [ev_ne (by omega), ev_ne (by omega)]
      exact t4
    · rw [ev_same (by simp [hsz])]
  · rintro ly j a' W1 hj ⟨mj, h1, h2, h3⟩ ⟨fr', hdf', t9⟩
    have hp := List.getElem?_eq_getElem hj
    rw [hp] at t9
    have hpf := (pieces_find l j).2 ps[j] (by rw [← hps]; exact hp)
    rw [← hps] at hpf
    obtain ⟨_, hp2, _, hp4⟩ := hpf
    have hb1 : BytesAt W1 W1.heap.size (adr A (posP ps j)) ps[j] := by
      rw [hp2]
      exact ((((hs.below h2.low (Nat.le_refl _)).drop (k := posP ps j) (fun _ => rfl)).take _).more h2.low.size)
    have hXk : ∀ k, W.heap.size ≤ k → ¬ (k = M ∨ k = b2 ∨ k = b3) := fun k hk e => by omega
    refine rd_body_any (by omega) hb1 fr' hdf' t9 h2 (fun a2 W2 m' hst i2 he => ?_) (fun a2 W2 hst e2 he => ?_)
    · exact ⟨KeepsFrom.of_else he hXk, he.block bb (by omega) (fun e => by omega), m', (takeUp_next h1 hp).trans hst, i2, Nat.le_trans h3 he.size⟩
    · exact ⟨KeepsFrom.of_else he hXk, rfl, takeUp_none (j := j + 1) ((takeUp_next h1 hp).trans hst), e2⟩
  · rintro D W1 hD ⟨mj, h1, h2, _⟩ hh
    rw [List.take_length] at h1
    refine hN D W1 mj (by rw [hps] at h1; exact h1) ⟨h2.low, h2.ord, h2.w2, h2.w3, h2.w4, h2.wa, h2.mp, h2.gd, h2.mks.cons (by omega) hh (fun D' hD' => by have := i.mks.lt hD'; omega)⟩
  · rintro D c' j W1 hD _ ⟨rfl, h1, h2⟩ hh
    exact wpIn_ret (hRt D W1 (by rw [hps] at h1; exact h1) ⟨h2.low, h2.ord, h2.w2, h2.w3, h2.mks.cons (by omega) hh (fun D' hD' => by have := i.mks.lt hD'; omega)⟩)
end
end Go.Proofs.YtmdlmmfbcnkanaaR
namespace Go.Proofs.YtmdlmmfbcnkanaaR
open Go.RowKit Go.Shelf
def readC (L : List (List UInt8)) : Int := if L.any (fun l => decide (4000 < l.length)) then 3 else readE (L.flatMap goods)
/-- What read hands back. -/
def ReadP (W0 : World) (L : List (List UInt8)) : Ending → World → Prop := fun e w' => Below W0.heap.size W0 w' ∧
  ((readC L ≠ 0 ∧ e = .returned (.tuple #[.pointer none, .int .i64 (readC L)])) ∨
   (readC L = 0 ∧ ∃ b M hr m, e = .returned (.tuple #[ptr b, .int .i64 0]) ∧ takeUp [] (L.flatMap goods) = some m ∧ find m (72, 0) = some hr ∧ ArchAt w' b M (headOf hr) m ∧ (∀ r, r ∈ m → isGood r = true) ∧ m.any (outOf (headOf hr)) = false))
/-- Lists of bytes in memory. -/
def ListsAt (w : World) (B : Nat) (A : Option Addr) (L : List (List UInt8)) : Prop :=
  ∀ k l, L[k]? = some l → ∃ b off, A = some ⟨b, off, none⟩ ∧ b < B ∧ ∃ Al cl, w.cell? ⟨b, off + k, none⟩ = some (.slice Al l.length cl) ∧ l.length ≤ cl ∧ l.length ≤ 100000 ∧ BytesAt w B Al l
section
variable {W0 : World} {b2 b3 b4 ba M : Nat} {Ds : List Nat} {m : List (List UInt8)} {L : List (List UInt8)}
theorem below_put_mark {W W' : World} {B D : Nat} (h : Below B W W') (hD : B ≤ D) (o : Obj) : Below B W (W'.putObj D o) :=
  ⟨h.os, h.tape, h.output, by simpa [World.putObj] using h.size, fun k hk => (World.putObj_heap_other (by omega)).trans (h.block k hk)⟩
/-- An error is handed back. -/
theorem ret_err {c : Int} {a : Act} {W : World} (e : RdE W0 b2 b3 b4 Ds c W) (hc : c ≠ 0) (hL : readC L = c) (hdf : a.defers = Ds.map mark) (t2 : a.eval (.tmp 2) = ptr b2) (t3 : a.eval (.tmp 3) = ptr b3) :
    bodyPostM Fence.wide 5 Try.prog Try.f58 (ReadP W0 L) .ret a W := by
  obtain ⟨o1, o2, o3⟩ := e.ord
  show LeavesInM _ _ _ _ _ _ a.defers _ _
  rw [hdf]
  refine leaves_marks2 (h := b4 + 1) (v := .tuple #[.pointer none, .int .i64 c]) (fun W => Below W0.heap.size W0 W ∧ Whole W b2 90 #[.pointer none] ∧ Whole W b3 27 #[.int .i64 c]) ?_ ?_ ?_ Ds W e.mks ⟨e.low, e.w2, e.w3⟩
  · rintro W' D hD _ ⟨h1, h2, h3⟩
    exact ⟨below_put_mark h1 (by omega) _, (World.putObj_heap_other (by omega)).trans h2, (World.putObj_heap_other (by omega)).trans h3⟩
  · rintro W' ⟨_, h2, h3⟩
    exact res58 Try.results58 t2 t3 (h2.cell 0) (h3.cell 0)
  · rintro W' ⟨h1, _, _⟩
    exact ⟨h1, .inl ⟨by rw [hL]; exact hc, by rw [hL]⟩⟩
/-- What holds behind the head. -/
structure RdA (W0 : World) (b2 b3 b4 ba M : Nat) (Ds : List Nat) (h : Head) (m : List (List UInt8)) (W : World) : Prop where
  low : Below W0.heap.size W0 W
  ord : W0.heap.size ≤ b2 ∧ b2 < b3 ∧ b3 < M ∧ M < ba ∧ ba < b4
  w2 : Whole W b2 90 #[.pointer none]
  w3 : Whole W b3 27 #[.int .i64 0]
  w4 : Whole W b4 90 #[ptr ba]
  ar : ArchAt W ba M h m
  gd : ∀ r, r ∈ m → isGood r = true
  mks : Mk (b4 + 1) Ds W
theorem RdA.else {h : Head} {W W' : World} {X : Nat → Prop} (i : RdA W0 b2 b3 b4 ba M Ds h m W) (he : Else X W W') (hX : ∀ k, k ≤ b4 → ¬ X k) (hD : ∀ D, D ∈ Ds → ¬ X D) : RdA W0 b2 b3 b4 ba M Ds h m W' := by
  obtain ⟨o1, o2, o3, o4, o5⟩ := i.ord
  exact ⟨i.low.trans (he.below i.low.size (fun k hk => hX k (by omega))), i.ord, he.whole (hX _ (by omega)) i.w2, he.whole (hX _ (by omega)) i.w3, he.whole (hX _ (by omega)) i.w4, i.ar.keep he (hX _ (by omega)) (hX _ (by omega)), i.gd, i.mks.else he hD⟩
theorem RdA.below {h : Head} {W W' : World} (i : RdA W0 b2 b3 b4 ba M Ds h m W) (hb : Below W.heap.size W W') : RdA W0 b2 b3 b4 ba M Ds h m W' := i.else (Else.of_below (fun _ => False) hb) (fun _ _ h => h) (fun _ _ h => h)
theorem RdA.lt {h : Head} {W : World} (i : RdA W0 b2 b3 b4 ba M Ds h m W) : b4 < W.heap.size := i.w4.lt
/-- Both results are laid. -/
theorem two_results {W : World} {b2 b3 b4 : Nat} {p : Option Addr} {c : Int} (low : Below W0.heap.size W0 W) (o : W0.heap.size ≤ b2 ∧ b2 < b3 ∧ b3 < b4) (w2 : Whole W b2 90 #[.pointer none]) (w3 : Whole W b3 27 #[.int .i64 0]) (mks : Mk (b4 + 1) Ds W) :
    ∃ W', W' = (W.setCell ⟨b2, 0, none⟩ (.pointer p)).setCell ⟨b3, 0, none⟩ (.int .i64 c) ∧ Below W0.heap.size W0 W' ∧ Whole W' b2 90 #[.pointer p] ∧ Whole W' b3 27 #[.int .i64 c] ∧ Mk (b4 + 1) Ds W' ∧ Else (fun k => k = b2 ∨ k = b3) W W' ∧
      (W.setCell ⟨b2, 0, none⟩ (.pointer p)).cell? ⟨b3, 0, none⟩ = some (.int .i64 0) ∧ (W.setCell ⟨b2, 0, none⟩ (.pointer p)).frozen? ⟨b3, 0, none⟩ = false := by
  obtain ⟨o1, o2, o3⟩ := o
  have e2 : Else (fun k => k = b2) W (W.setCell ⟨b2, 0, none⟩ (.pointer p)) := (Else.refl (fun k => k = b2) W).setCell (p := ⟨b2, 0, none⟩) (.inl rfl) _
  have e3 : Else (fun k => k = b3) (W.setCell ⟨b2, 0, none⟩ (.pointer p)) ((W.setCell ⟨b2, 0, none⟩ (.pointer p)).setCell ⟨b3, 0, none⟩ (.int .i64 c)) := (Else.refl (fun k => k = b3) _).setCell (p := ⟨b3, 0, none⟩) (.inl rfl) _
  have w31 := e2.whole (show ¬ b3 = b2 by omega) w3
  refine ⟨_, rfl, (low.setCell (p := ⟨b2, 0, none⟩) o1 _).setCell (p := ⟨b3, 0, none⟩) (by show W0.heap.size ≤ b3; omega) _, e3.whole (by omega) (w2.set 0 _), w31.set 0 _, (mks.else e2 ?_).else e3 ?_, (e2.mono (fun k _ e => .inl e)).trans (e3.mono (fun k _ e => .inr e)), w31.cell 0, w31.frozen 0⟩
  · intro D hD e
    have := (mks.at_ D hD).1
    omega
  · intro D hD e
    have := (mks.at_ D hD).1
    omega
theorem RdA.err {h : Head} {W : World} (i : RdA W0 b2 b3 b4 ba M Ds h m W) (c : Int) : RdE W0 b2 b3 b4 Ds c ((W.setCell ⟨b2, 0, none⟩ (.pointer none)).setCell ⟨b3, 0, none⟩ (.int .i64 c)) := by
  obtain ⟨o1, o2, o3, o4, o5⟩ := i.ord
  obtain ⟨W', rfl, h1, h2, h3, h4, _⟩ := two_results (p := none) (c := c) i.low ⟨o1, o2, by omega⟩ i.w2 i.w3 i.mks
  exact ⟨h1, ⟨o1, o2, by omega⟩, h2, h3, h4⟩
/-- The archive is handed back. -/
theorem ret_arch {hr : List UInt8} {a : Act} {W : World} (i : RdA W0 b2 b3 b4 ba M Ds (headOf hr) m W) (hL : readC L = 0) (ht : takeUp [] (L.flatMap goods) = some m) (hf : find m (72, 0) = some hr) (ho : m.any (outOf (headOf hr)) = false)
    (hdf : a.defers = Ds.map mark) (t2 : a.eval (.tmp 2) = ptr b2) (t3 : a.eval (.tmp 3) = ptr b3) :
    bodyPostM Fence.wide 5 Try.prog Try.f58 (ReadP W0 L) .ret a ((W.setCell ⟨b2, 0, none⟩ (ptr ba)).setCell ⟨b3, 0, none⟩ (.int .i64 0)) := by
  obtain ⟨o1, o2, o3, o4, o5⟩ := i.ord
  obtain ⟨W', rfl, h1, h2, h3, h4, h5, _⟩ := two_results (p := some ⟨ba, 0, none⟩) (c := 0) i.low ⟨o1, o2, by omega⟩ i.w2 i.w3 i.mks
  have har := i.ar.keep h5 (by rintro (e | e) <;> omega) (by rintro (e | e) <;> omega)
  show LeavesInM _ _ _ _ _ _ a.defers _ _
  rw [hdf]
  refine leaves_marks2 (h := b4 + 1) (v := .tuple #[ptr ba, .int .i64 0]) (fun W => Below W0.heap.size W0 W ∧ Whole W b2 90 #[ptr ba] ∧ Whole W b3 27 #[.int .i64 0] ∧ ArchAt W ba M (headOf hr) m) ?_ ?_ ?_ Ds _ h4 ⟨h1, h2, h3, har⟩
  · rintro W' D hD _ ⟨h1, h2, h3, h4⟩
    exact ⟨below_put_mark h1 (by omega) _, (World.putObj_heap_other (by omega)).trans h2, (World.putObj_heap_other (by omega)).trans h3, (World.putObj_heap_other (by omega)).trans h4.whole, h4.map.keep (World.putObj_heap_other (by omega)), h4.seven⟩
  · rintro W' ⟨_, h2, h3, _⟩
    exact res58 Try.results58 t2 t3 (h2.cell 0) (h3.cell 0)
  · rintro W' ⟨h1, _, _, h4⟩
    exact ⟨h1, .inr ⟨hL, ba, M, hr, m, rfl, ht, hf, h4, i.gd, ho⟩⟩
end
end Go.Proofs.YtmdlmmfbcnkanaaR
namespace Go.Proofs.YtmdlmmfbcnkanaaR
open Go.RowKit Go.Shelf
theorem AnyK.passU {P : Program} {ops : Array Oper} {K : Act → World → Prop} {Kp : Nat → World → World → Prop} {fuel i j d : Nat} {listed : Array Bool} {a : Act} {w : World} {ty : TypeId} {pos : String} {aft : Array Edge} {R : World → Prop} {T : Nat → Bool} {op : Op} {b : Bool} {e : Nat}
    (m : May ops Kp listed R T i ⟨some d, op, ty, pos, aft, some (j, b)⟩) (hj : (ops[j]?).bind (·.dst) = some e) (he : a.eval (.tmp e) = undef) (hS : R w)
    (h : AnyK P ops K Kp fuel (listed.setIfInBounds i true) (a.put (some d) undef) w) : AnyK P ops K Kp (fuel + 1) listed a w :=
  AnyK.pass m (wanted_undef hj he) hS h
theorem ex0s (u : Value) (w : World) : (Instr.extract (.tuple #[u]) 0).run Try.prog w = .ok u w := by go_simp
theorem ex0t (u v x : Value) (w : World) : (Instr.extract (.tuple #[u, v, x]) 0).run Try.prog w = .ok u w := by go_simp
/-- How many entries an iterator has handed out. -/
def seenN (W : World) (r : Nat) : Nat := match W.heap[r]? with
  | some (.mapIter _ _ seen _) => seen.size
  | _ => 0
theorem IterAt.seenN {κ : Type} {kv : κ → Value} {W : World} {r M : Nat} {l : List (κ × Value)} {D : List Nat} (h : IterAt kv W r M l D) : seenN W r = D.length := by
  obtain ⟨es, ck, since, seen, h1, h2, h3, h4, h5, h6, h7⟩ := h.ex
  have := congrArg List.length h7
  simp at this
  simp [YtmdlmmfbcnkanaaR.seenN, h6, this]
section
variable {W0 : World} {b2 b3 b4 ba M : Nat} {Ds : List Nat} {m : List (List UInt8)} {h : Head}
attribute [local irreducible] AnyK StepK
set_option maxHeartbeats 400000 in
theorem rd_27 {b16 r0 : Nat} {nm : UInt8 × Nat} {a : Act} {W : World} {Q : Exit → Act → World → Prop} (hh : HeadB h) (fr : RF b2 b3 b4 a) (t16 : a.eval (.tmp 16) = ptr b16) (t90 : a.eval (.tmp 90) = ptr r0) (i : RdA W0 b2 b3 b4 ba M Ds h m W) (w16 : Whole W b16 97 #[u8V nm.1, .int .i64 (nm.2 : Int)])
    (hQ : ∀ a' W', RF b2 b3 b4 a' → a'.defers = a.defers → a'.eval (.tmp 90) = ptr r0 → a'.eval (.tmp 122) = .bool ((nm.1 == 82 && decide (h.many ≤ nm.2)) || (nm.1 == 80 && decide (h.blocks ≤ nm.2))) → Below W.heap.size W W' → Q .normal a' W') :
    (Code.region 27 opsRd27 true).wpIn Fence.wide 5 Try.prog Q a W := by
  have hm := hh.many
  have hw := hh.width
  obtain ⟨hsz, t2, t3, t4⟩ := fr
  have hbd := (Below.refl W.heap.size W).drew
  have wa := i.ar.whole
  have w4 := i.w4
  have hgq : ∀ (x y : Operand) (p q : Nat) (w : World), (do eqGuard .geq 3 x y (.int .i64 (p : Int)) (.int .i64 (q : Int)); binOp .geq 3 (.int .i64 (p : Int)) (.int .i64 (q : Int)) : Sem Value).run Try.prog w = .ok (.bool (decide (q ≤ p))) w := fun x y p q w => by
    rw [geq3]
    congr 2
    simp
  by_cases h82 : nm.1 = 82
  · have en : ((nm.1.toNat : Int)) = 82 := by rw [h82]; rfl
    by_cases hge : h.many ≤ nm.2
    · have hd : decide (h.many ≤ nm.2) = true := by simpa using hge
      refine region_K (KpR (fun w : World => Whole w b4 90 #[ptr ba] ∧ Whole w ba 95 #[.int .i64 (h.many : Int), .int .i64 (h.width : Int), .int .i64 (h.step : Int), .map (some M)] ∧ Whole w b16 97 #[u8V nm.1, .int .i64 (nm.2 : Int)]) (fun _ => false)) (wideF_plain _) (by kernel_rfl) Try.mixed ?_
      change AnyK _ _ _ _ 28 (Array.replicate 28 false) _ _
      have hR : (fun w : World => Whole w b4 90 #[ptr ba] ∧ Whole w ba 95 #[.int .i64 (h.many : Int), .int .i64 (h.width : Int), .int .i64 (h.step : Int), .map (some M)] ∧ Whole w b16 97 #[u8V nm.1, .int .i64 (nm.2 : Int)]) W.drew := ⟨w4.below hbd w4.lt, wa.below hbd wa.lt, w16.below hbd w16.lt⟩
      refine AnyK.field (i := 0) may_o (u := .pointer (some ⟨b16, 0, none⟩)) (v := .pointer (some ⟨b16, 0, none⟩)) (by simp [t16]) (fun w => fa97_0 w) hR ?_
      refine AnyK.load (i := 1) may_o (p := ⟨b16, 0, none⟩) (v := u8V nm.1) (by simp [hsz]) (fun w hw => ld5 (hw.2.2.cell 0)) hR ?_
      refine AnyK.bin (i := 2) may_o (u := u8V nm.1) (u' := .int .u8 82) (v := .bool true) (by simp [hsz]) (by simp) (fun w => eql5T en w) hR ?_
      refine AnyK.move (i := 3) may_o (v := .bool true) (by simp [hsz]) hR ?_
      refine AnyK.field (i := 4) may_o (u := .pointer (some ⟨b16, 0, none⟩)) (v := .pointer (some ⟨b16, 1, none⟩)) (by simp [t16]) (fun w => fa97_1 w) hR (hw := (by exact wanted_g (e := 98) (b' := true) rfl (by simp [hsz]) rfl)) ?_
      refine AnyK.load (i := 5) may_o (p := ⟨b16, 1, none⟩) (v := .int .i64 (nm.2 : Int)) (by simp [hsz]) (fun w hw => ld3 (hw.2.2.cell 1)) hR (hw := (by exact wanted_g (e := 98) (b' := true) rfl (by simp [hsz]) rfl)) ?_
      refine AnyK.load (i := 6) may_o (p := ⟨b4, 0, none⟩) (v := .pointer (some ⟨ba, 0, none⟩)) (by simp [t4]) (fun w hw => ld90 (hw.1.cell 0)) hR (hw := (by exact wanted_g (e := 98) (b' := true) rfl (by simp [hsz]) rfl)) ?_
      refine AnyK.nilCheck (i := 7) may_o (p := ⟨ba, 0, none⟩) (by simp [hsz]) hR (hw := (by exact wanted_g (e := 98) (b' := true) rfl (by simp [hsz]) rfl)) ?_
      refine AnyK.field (i := 8) may_o (u := .pointer (some ⟨ba, 0, none⟩)) (v := .pointer (some ⟨ba, 0, none⟩)) (by simp [hsz]) (fun w => fa95_0 w) hR (hw := (by exact wanted_g (e := 98) (b' := true) rfl (by simp [hsz]) rfl)) ?_
      refine AnyK.field (i := 9) may_o (u := .pointer (some ⟨ba, 0, none⟩)) (v := .pointer (some ⟨ba, 0, none⟩)) (by simp [hsz]) (fun w => fa77_0 w) hR (hw := (by exact wanted_g (e := 98) (b' := true) rfl (by simp [hsz]) rfl)) ?_
      refine AnyK.load (i := 10) may_o (p := ⟨ba, 0, none⟩) (v := .int .i64 (h.many : Int)) (by simp [hsz]) (fun w hw => ld3 (hw.2.1.cell 0)) hR (hw := (by exact wanted_g (e := 98) (b' := true) rfl (by simp [hsz]) rfl)) ?_
      refine AnyK.bin (i := 11) may_o (u := .int .i64 (nm.2 : Int)) (u' := .int .i64 (h.many : Int)) (v := .bool true) (by simp [hsz]) (by simp [hsz]) (fun w => by rw [← hd]; exact hgq _ _ _ _ w) hR (hw := (by exact wanted_g (e := 98) (b' := true) rfl (by simp [hsz]) rfl)) ?_
      refine AnyK.pick (i := 12) may_o (b := true) (v := .bool true) (by simp [hsz]) (by simp [hsz]) hR ?_
      refine AnyK.move (i := 13) may_o (v := .bool true) (by simp [hsz]) hR ?_
      refine AnyK.passG (i := 14) may_o (e := 108) (b' := true) rfl (by simp [hsz]) rfl hR ?_
      refine AnyK.passG (i := 15) may_o (e := 108) (b' := true) rfl (by simp [hsz]) rfl hR ?_
      refine AnyK.passG (i := 16) may_o (e := 108) (b' := true) rfl (by simp [hsz]) rfl hR ?_
      refine AnyK.passG (i := 17) may_o (e := 108) (b' := true) rfl (by simp [hsz]) rfl hR ?_
      refine AnyK.passU (i := 18) may_o (e := 112) rfl (by simp [hsz]) hR ?_
      refine AnyK.passU (i := 19) may_o (e := 112) rfl (by simp [hsz]) hR ?_
      refine AnyK.passU (i := 20) may_o (e := 112) rfl (by simp [hsz]) hR ?_
      refine AnyK.passU (i := 21) may_o (e := 112) rfl (by simp [hsz]) hR ?_
      refine AnyK.passU (i := 22) may_o (e := 112) rfl (by simp [hsz]) hR ?_
      refine AnyK.passU (i := 23) may_o (e := 112) rfl (by simp [hsz]) hR ?_
      refine AnyK.passU (i := 24) may_o (e := 112) rfl (by simp [hsz]) hR ?_
      refine AnyK.passU (i := 25) may_o (e := 112) rfl (by simp [hsz]) hR ?_
      refine AnyK.passG (i := 26) may_o (e := 108) (b' := true) rfl (by simp [hsz]) rfl hR ?_
      refine AnyK.pick (i := 27) may_o (b := true) (v := .bool true) (by simp [hsz]) (by simp) hR ?_
      refine AnyK.done (by kernel_rfl) ?_
      exact hQ _ _ ⟨(by simp only [size_put, hsz]), (by simp [t2]), (by simp [t3]), (by simp [t4])⟩ (by simp only [defers_put]) (by simp [t90]) (by rw [h82, hd]; exact (by simp [hsz])) hbd
    · have hd : decide (h.many ≤ nm.2) = false := by simpa using hge
      have en2 : ((nm.1.toNat : Int)) ≠ 80 := by rw [h82]; decide
      refine region_K (KpR (fun w : World => Whole w b4 90 #[ptr ba] ∧ Whole w ba 95 #[.int .i64 (h.many : Int), .int .i64 (h.width : Int), .int .i64 (h.step : Int), .map (some M)] ∧ Whole w b16 97 #[u8V nm.1, .int .i64 (nm.2 : Int)]) (fun _ => false)) (wideF_plain _) (by kernel_rfl) Try.mixed ?_
      change AnyK _ _ _ _ 28 (Array.replicate 28 false) _ _
      have hR : (fun w : World => Whole w b4 90 #[ptr ba] ∧ Whole w ba 95 #[.int .i64 (h.many : Int), .int .i64 (h.width : Int), .int .i64 (h.step : Int), .map (some M)] ∧ Whole w b16 97 #[u8V nm.1, .int .i64 (nm.2 : Int)]) W.drew := ⟨w4.below hbd w4.lt, wa.below hbd wa.lt, w16.below hbd w16.lt⟩
      refine AnyK.field (i := 0) may_o (u := .pointer (some ⟨b16, 0, none⟩)) (v := .pointer (some ⟨b16, 0, none⟩)) (by simp [t16]) (fun w => fa97_0 w) hR ?_
      refine AnyK.load (i := 1) may_o (p := ⟨b16, 0, none⟩) (v := u8V nm.1) (by simp [hsz]) (fun w hw => ld5 (hw.2.2.cell 0)) hR ?_
      refine AnyK.bin (i := 2) may_o (u := u8V nm.1) (u' := .int .u8 82) (v := .bool true) (by simp [hsz]) (by simp) (fun w => eql5T en w) hR ?_
      refine AnyK.move (i := 3) may_o (v := .bool true) (by simp [hsz]) hR ?_
      refine AnyK.field (i := 4) may_o (u := .pointer (some ⟨b16, 0, none⟩)) (v := .pointer (some ⟨b16, 1, none⟩)) (by simp [t16]) (fun w => fa97_1 w) hR (hw := (by exact wanted_g (e := 98) (b' := true) rfl (by simp [hsz]) rfl)) ?_
      refine AnyK.load (i := 5) may_o (p := ⟨b16, 1, none⟩) (v := .int .i64 (nm.2 : Int)) (by simp [hsz]) (fun w hw => ld3 (hw.2.2.cell 1)) hR (hw := (by exact wanted_g (e := 98) (b' := true) rfl (by simp [hsz]) rfl)) ?_
      refine AnyK.load (i := 6) may_o (p := ⟨b4, 0, none⟩) (v := .pointer (some ⟨ba, 0, none⟩)) (by simp [t4]) (fun w hw => ld90 (hw.1.cell 0)) hR (hw := (by exact wanted_g (e := 98) (b' := true) rfl (by simp [hsz]) rfl)) ?_
      refine AnyK.nilCheck (i := 7) may_o (p := ⟨ba, 0, none⟩) (by simp [hsz]) hR (hw := (by exact wanted_g (e := 98) (b' := true) rfl (by simp [hsz]) rfl)) ?_
      refine AnyK.field (i := 8) may_o (u := .pointer (some ⟨ba, 0, none⟩)) (v := .pointer (some ⟨ba, 0, none⟩)) (by simp [hsz]) (fun w => fa95_0 w) hR (hw := (by exact wanted_g (e := 98) (b' := true) rfl (by simp [hsz]) rfl)) ?_
      refine AnyK.field (i := 9) may_o (u := .pointer (some ⟨ba, 0, none⟩)) (v := .pointer (some ⟨ba, 0, none⟩)) (by simp [hsz]) (fun w => fa77_0 w) hR (hw := (by exact wanted_g (e := 98) (b' := true) rfl (by simp [hsz]) rfl)) ?_
      refine AnyK.load (i := 10) may_o (p := ⟨ba, 0, none⟩) (v := .int .i64 (h.many : Int)) (by simp [hsz]) (fun w hw => ld3 (hw.2.1.cell 0)) hR (hw := (by exact wanted_g (e := 98) (b' := true) rfl (by simp [hsz]) rfl)) ?_
      refine AnyK.bin (i := 11) may_o (u := .int .i64 (nm.2 : Int)) (u' := .int .i64 (h.many : Int)) (v := .bool false) (by simp [hsz]) (by simp [hsz]) (fun w => by rw [← hd]; exact hgq _ _ _ _ w) hR (hw := (by exact wanted_g (e := 98) (b' := true) rfl (by simp [hsz]) rfl)) ?_
      refine AnyK.pick (i := 12) may_o (b := true) (v := .bool false) (by simp [hsz]) (by simp [hsz]) hR ?_
      refine AnyK.move (i := 13) may_o (v := .bool false) (by simp [hsz]) hR ?_
      refine AnyK.field (i := 14) may_o (u := .pointer (some ⟨b16, 0, none⟩)) (v := .pointer (some ⟨b16, 0, none⟩)) (by simp [t16]) (fun w => fa97_0 w) hR (hw := (by exact wanted_g (e := 108) (b' := false) rfl (by simp [hsz]) rfl)) ?_
      refine AnyK.load (i := 15) may_o (p := ⟨b16, 0, none⟩) (v := u8V nm.1) (by simp [hsz]) (fun w hw => ld5 (hw.2.2.cell 0)) hR (hw := (by exact wanted_g (e := 108) (b' := false) rfl (by simp [hsz]) rfl)) ?_
      refine AnyK.bin (i := 16) may_o (u := u8V nm.1) (u' := .int .u8 80) (v := .bool false) (by simp [hsz]) (by simp) (fun w => eql5F en2 w) hR (hw := (by exact wanted_g (e := 108) (b' := false) rfl (by simp [hsz]) rfl)) ?_
      refine AnyK.move (i := 17) may_o (v := .bool false) (by simp [hsz]) hR (hw := (by exact wanted_g (e := 108) (b' := false) rfl (by simp [hsz]) rfl)) ?_
      refine AnyK.passG (i := 18) may_o (e := 112) (b' := false) rfl (by simp [hsz]) rfl hR ?_
      refine AnyK.passG (i := 19) may_o (e := 112) (b' := false) rfl (by simp [hsz]) rfl hR ?_
      refine AnyK.passG (i := 20) may_o (e := 112) (b' := false) rfl (by simp [hsz]) rfl hR ?_
      refine AnyK.passG (i := 21) may_o (e := 112) (b' := false) rfl (by simp [hsz]) rfl hR ?_
      refine AnyK.passG (i := 22) may_o (e := 112) (b' := false) rfl (by simp [hsz]) rfl hR ?_
      refine AnyK.passG (i := 23) may_o (e := 112) (b' := false) rfl (by simp [hsz]) rfl hR ?_
      refine AnyK.passG (i := 24) may_o (e := 112) (b' := false) rfl (by simp [hsz]) rfl hR ?_
      refine AnyK.passG (i := 25) may_o (e := 112) (b' := false) rfl (by simp [hsz]) rfl hR ?_
      refine AnyK.pick (i := 26) may_o (b := false) (v := .bool false) (by simp [hsz]) (by simp) hR (hw := (by exact wanted_g (e := 108) (b' := false) rfl (by simp [hsz]) rfl)) ?_
      refine AnyK.pick (i := 27) may_o (b := false) (v := .bool false) (by simp [hsz]) (by simp [hsz]) hR ?_
      refine AnyK.done (by kernel_rfl) ?_
      exact hQ _ _ ⟨(by simp only [size_put, hsz]), (by simp [t2]), (by simp [t3]), (by simp [t4])⟩ (by simp only [defers_put]) (by simp [t90]) (by rw [h82, hd]; exact (by simp [hsz])) hbd
  · have en : ((nm.1.toNat : Int)) ≠ 82 := fun e => h82 (UInt8.toNat_inj.1 (show nm.1.toNat = 82 by omega))
    have e82 : (nm.1 == 82) = false := by simpa using h82
    by_cases h80 : nm.1 = 80
    · have en2 : ((nm.1.toNat : Int)) = 80 := by rw [h80]; rfl
      refine region_K (KpR (fun w : World => Whole w b4 90 #[ptr ba] ∧ Whole w ba 95 #[.int .i64 (h.many : Int), .int .i64 (h.width : Int), .int .i64 (h.step : Int), .map (some M)] ∧ Whole w b16 97 #[u8V nm.1, .int .i64 (nm.2 : Int)]) (fun _ => false)) (wideF_plain _) (by kernel_rfl) Try.mixed ?_
      change AnyK _ _ _ _ 28 (Array.replicate 28 false) _ _
      have hR : (fun w : World => Whole w b4 90 #[ptr ba] ∧ Whole w ba 95 #[.int .i64 (h.many : Int), .int .i64 (h.width : Int), .int .i64 (h.step : Int), .map (some M)] ∧ Whole w b16 97 #[u8V nm.1, .int .i64 (nm.2 : Int)]) W.drew := ⟨w4.below hbd w4.lt, wa.below hbd wa.lt, w16.below hbd w16.lt⟩
      refine AnyK.field (i := 0) may_o (u := .pointer (some ⟨b16, 0, none⟩)) (v := .pointer (some ⟨b16, 0, none⟩)) (by simp [t16]) (fun w => fa97_0 w) hR ?_
      refine AnyK.load (i := 1) may_o (p := ⟨b16, 0, none⟩) (v := u8V nm.1) (by simp [hsz]) (fun w hw => ld5 (hw.2.2.cell 0)) hR ?_
      refine AnyK.bin (i := 2) may_o (u := u8V nm.1) (u' := .int .u8 82) (v := .bool false) (by simp [hsz]) (by simp) (fun w => eql5F en w) hR ?_
      refine AnyK.move (i := 3) may_o (v := .bool false) (by simp [hsz]) hR ?_
      refine AnyK.passG (i := 4) may_o (e := 98) (b' := false) rfl (by simp [hsz]) rfl hR ?_
      refine AnyK.passG (i := 5) may_o (e := 98) (b' := false) rfl (by simp [hsz]) rfl hR ?_
      refine AnyK.passG (i := 6) may_o (e := 98) (b' := false) rfl (by simp [hsz]) rfl hR ?_
      refine AnyK.passG (i := 7) may_o (e := 98) (b' := false) rfl (by simp [hsz]) rfl hR ?_
      refine AnyK.passG (i := 8) may_o (e := 98) (b' := false) rfl (by simp [hsz]) rfl hR ?_
      refine AnyK.passG (i := 9) may_o (e := 98) (b' := false) rfl (by simp [hsz]) rfl hR ?_
      refine AnyK.passG (i := 10) may_o (e := 98) (b' := false) rfl (by simp [hsz]) rfl hR ?_
      refine AnyK.passG (i := 11) may_o (e := 98) (b' := false) rfl (by simp [hsz]) rfl hR ?_
      refine AnyK.pick (i := 12) may_o (b := false) (v := .bool false) (by simp [hsz]) (by simp) hR ?_
      refine AnyK.move (i := 13) may_o (v := .bool false) (by simp [hsz]) hR ?_
      refine AnyK.field (i := 14) may_o (u := .pointer (some ⟨b16, 0, none⟩)) (v := .pointer (some ⟨b16, 0, none⟩)) (by simp [t16]) (fun w => fa97_0 w) hR (hw := (by exact wanted_g (e := 108) (b' := false) rfl (by simp [hsz]) rfl)) ?_
      refine AnyK.load (i := 15) may_o (p := ⟨b16, 0, none⟩) (v := u8V nm.1) (by simp [hsz]) (fun w hw => ld5 (hw.2.2.cell 0)) hR (hw := (by exact wanted_g (e := 108) (b' := false) rfl (by simp [hsz]) rfl)) ?_
      refine AnyK.bin (i := 16) may_o (u := u8V nm.1) (u' := .int .u8 80) (v := .bool true) (by simp [hsz]) (by simp) (fun w => eql5T en2 w) hR (hw := (by exact wanted_g (e := 108) (b' := false) rfl (by simp [hsz]) rfl)) ?_
      refine AnyK.move (i := 17) may_o (v := .bool true) (by simp [hsz]) hR (hw := (by exact wanted_g (e := 108) (b' := false) rfl (by simp [hsz]) rfl)) ?_
      refine AnyK.field (i := 18) may_o (u := .pointer (some ⟨b16, 0, none⟩)) (v := .pointer (some ⟨b16, 1, none⟩)) (by simp [t16]) (fun w => fa97_1 w) hR (hw := (by exact wanted_g (e := 112) (b' := true) rfl (by simp [hsz]) rfl)) ?_
      refine AnyK.load (i := 19) may_o (p := ⟨b16, 1, none⟩) (v := .int .i64 (nm.2 : Int)) (by simp [hsz]) (fun w hw => ld3 (hw.2.2.cell 1)) hR (hw := (by exact wanted_g (e := 112) (b' := true) rfl (by simp [hsz]) rfl)) ?_
      refine AnyK.load (i := 20) may_o (p := ⟨b4, 0, none⟩) (v := .pointer (some ⟨ba, 0, none⟩)) (by simp [t4]) (fun w hw => ld90 (hw.1.cell 0)) hR (hw := (by exact wanted_g (e := 112) (b' := true) rfl (by simp [hsz]) rfl)) ?_
      refine AnyK.nilCheck (i := 21) may_o (p := ⟨ba, 0, none⟩) (by simp [hsz]) hR (hw := (by exact wanted_g (e := 112) (b' := true) rfl (by simp [hsz]) rfl)) ?_
      refine AnyK.field (i := 22) may_o (u := .pointer (some ⟨ba, 0, none⟩)) (v := .pointer (some ⟨ba, 0, none⟩)) (by simp [hsz]) (fun w => fa95_0 w) hR (hw := (by exact wanted_g (e := 112) (b' := true) rfl (by simp [hsz]) rfl)) ?_
      refine AnyK.load (i := 23) may_o (p := ⟨ba, 0, none⟩) (v := headV (h.many : Int) (h.width : Int) (h.step : Int)) (by simp [hsz]) (fun w hw => ld77 ⟨hw.2.1.cell 0, hw.2.1.cell 1, hw.2.1.cell 2⟩) hR (hw := (by exact wanted_g (e := 112) (b' := true) rfl (by simp [hsz]) rfl)) ?_
      refine AnyK.pick1 (i := 24) (by kernel_rfl) ?_
      refine StepK.call (i := 24) (f := 84) (vs := #[headV (h.many : Int) (h.width : Int) (h.step : Int)]) rfl (enters_of Try.func84 (by kernel_rfl) rfl) rfl (by simp [hsz]) ((blocks_any _ h.many h.width h.step (by omega) (by omega) (by omega)).mono ?_) (hw := (by exact wanted_g (e := 112) (b' := true) rfl (by simp [hsz]) rfl))
      rintro _ W2 ⟨rfl, hb2⟩
      replace hR : (fun w : World => Whole w b4 90 #[ptr ba] ∧ Whole w ba 95 #[.int .i64 (h.many : Int), .int .i64 (h.width : Int), .int .i64 (h.step : Int), .map (some M)] ∧ Whole w b16 97 #[u8V nm.1, .int .i64 (nm.2 : Int)]) W2 := ⟨hR.1.below hb2 hR.1.lt, hR.2.1.below hb2 hR.2.1.lt, hR.2.2.below hb2 hR.2.2.lt⟩
      refine ⟨_, rfl, fun _ _ => hR, ?_⟩
      refine AnyK.bin (i := 25) may_o (u := .int .i64 (nm.2 : Int)) (u' := .int .i64 ((h.many + h.width - 1) / h.width : Nat)) (v := .bool (decide (h.blocks ≤ nm.2))) (by simp [hsz]) (by simp [hsz]) (fun w => hgq _ _ _ _ w) hR (hw := (by exact wanted_g (e := 112) (b' := true) rfl (by simp [hsz]) rfl)) ?_
      refine AnyK.pick (i := 26) may_o (b := true) (v := .bool (decide (h.blocks ≤ nm.2))) (by simp [hsz]) (by simp [hsz]) hR (hw := (by exact wanted_g (e := 108) (b' := false) rfl (by simp [hsz]) rfl)) ?_
      refine AnyK.pick (i := 27) may_o (b := false) (v := .bool (decide (h.blocks ≤ nm.2))) (by simp [hsz]) (by simp [hsz]) hR ?_
      refine AnyK.done (by kernel_rfl) ?_
      exact hQ _ _ ⟨(by simp only [size_put, hsz]), (by simp [t2]), (by simp [t3]), (by simp [t4])⟩ (by simp only [defers_put]) (by simp [t90]) (by rw [e82, h80]; exact (by simp [hsz])) (hbd.trans hb2)
    · have en2 : ((nm.1.toNat : Int)) ≠ 80 := fun e => h80 (UInt8.toNat_inj.1 (show nm.1.toNat = 80 by omega))
      have e80 : (nm.1 == 80) = false := by simpa using h80
      refine region_K (KpR (fun w : World => Whole w b4 90 #[ptr ba] ∧ Whole w ba 95 #[.int .i64 (h.many : Int), .int .i64 (h.width : Int), .int .i64 (h.step : Int), .map (some M)] ∧ Whole w b16 97 #[u8V nm.1, .int .i64 (nm.2 : Int)]) (fun _ => false)) (wideF_plain _) (by kernel_rfl) Try.mixed ?_
      change AnyK _ _ _ _ 28 (Array.replicate 28 false) _ _
      have hR : (fun w : World => Whole w b4 90 #[ptr ba] ∧ Whole w ba 95 #[.int .i64 (h.many : Int), .int .i64 (h.width : Int), .int .i64 (h.step : Int), .map (some M)] ∧ Whole w b16 97 #[u8V nm.1, .int .i64 (nm.2 : Int)]) W.drew := ⟨w4.below hbd w4.lt, wa.below hbd wa.lt, w16.below hbd w16.lt⟩
      refine AnyK.field (i := 0) may_o (u := .pointer (some ⟨b16, 0, none⟩)) (v := .pointer (some ⟨b16, 0, none⟩)) (by simp [t16]) (fun w => fa97_0 w) hR ?_
      refine AnyK.load (i := 1) may_o (p := ⟨b16, 0, none⟩) (v := u8V nm.1) (by simp [hsz]) (fun w hw => ld5 (hw.2.2.cell 0)) hR ?_
      refine AnyK.bin (i := 2) may_o (u := u8V nm.1) (u' := .int .u8 82) (v := .bool false) (by simp [hsz]) (by simp) (fun w => eql5F en w) hR ?_
      refine AnyK.move (i := 3) may_o (v := .bool false) (by simp [hsz]) hR ?_
      refine AnyK.passG (i := 4) may_o (e := 98) (b' := false) rfl (by simp [hsz]) rfl hR ?_
      refine AnyK.passG (i := 5) may_o (e := 98) (b' := false) rfl (by simp [hsz]) rfl hR ?_
      refine AnyK.passG (i := 6) may_o (e := 98) (b' := false) rfl (by simp [hsz]) rfl hR ?_
      refine AnyK.passG (i := 7) may_o (e := 98) (b' := false) rfl (by simp [hsz]) rfl hR ?_
      refine AnyK.passG (i := 8) may_o (e := 98) (b' := false) rfl (by simp [hsz]) rfl hR ?_
      refine AnyK.passG (i := 9) may_o (e := 98) (b' := false) rfl (by simp [hsz]) rfl hR ?_
      refine AnyK.passG (i := 10) may_o (e := 98) (b' := false) rfl (by simp [hsz]) rfl hR ?_
      refine AnyK.passG (i := 11) may_o (e := 98) (b' := false) rfl (by simp [hsz]) rfl hR ?_
      refine AnyK.pick (i := 12) may_o (b := false) (v := .bool false) (by simp [hsz]) (by simp) hR ?_
      refine AnyK.move (i := 13) may_o (v := .bool false) (by simp [hsz]) hR ?_
      refine AnyK.field (i := 14) may_o (u := .pointer (some ⟨b16, 0, none⟩)) (v := .pointer (some ⟨b16, 0, none⟩)) (by simp [t16]) (fun w => fa97_0 w) hR (hw := (by exact wanted_g (e := 108) (b' := false) rfl (by simp [hsz]) rfl)) ?_
      refine AnyK.load (i := 15) may_o (p := ⟨b16, 0, none⟩) (v := u8V nm.1) (by simp [hsz]) (fun w hw => ld5 (hw.2.2.cell 0)) hR (hw := (by exact wanted_g (e := 108) (b' := false) rfl (by simp [hsz]) rfl)) ?_
      refine AnyK.bin (i := 16) may_o (u := u8V nm.1) (u' := .int .u8 80) (v := .bool false) (by simp [hsz]) (by simp) (fun w => eql5F en2 w) hR (hw := (by exact wanted_g (e := 108) (b' := false) rfl (by simp [hsz]) rfl)) ?_
      refine AnyK.move (i := 17) may_o (v := .bool false) (by simp [hsz]) hR (hw := (by exact wanted_g (e := 108) (b' := false) rfl (by simp [hsz]) rfl)) ?_
      refine AnyK.passG (i := 18) may_o (e := 112) (b' := false) rfl (by simp [hsz]) rfl hR ?_
      refine AnyK.passG (i := 19) may_o (e := 112) (b' := false) rfl (by simp [hsz]) rfl hR ?_
      refine AnyK.passG (i := 20) may_o (e := 112) (b' := false) rfl (by simp [hsz]) rfl hR ?_
      refine AnyK.passG (i := 21) may_o (e := 112) (b' := false) rfl (by simp [hsz]) rfl hR ?_
      refine AnyK.passG (i := 22) may_o (e := 112) (b' := false) rfl (by simp [hsz]) rfl hR ?_
      refine AnyK.passG (i := 23) may_o (e := 112) (b' := false) rfl (by simp [hsz]) rfl hR ?_
      refine AnyK.passG (i := 24) may_o (e := 112) (b' := false) rfl (by simp [hsz]) rfl hR ?_
      refine AnyK.passG (i := 25) may_o (e := 112) (b' := false) rfl (by simp [hsz]) rfl hR ?_
      refine AnyK.pick (i := 26) may_o (b := false) (v := .bool false) (by simp [hsz]) (by simp) hR (hw := (by exact wanted_g (e := 108) (b' := false) rfl (by simp [hsz]) rfl)) ?_
      refine AnyK.pick (i := 27) may_o (b := false) (v := .bool false) (by simp [hsz]) (by simp [hsz]) hR ?_
      refine AnyK.done (by kernel_rfl) ?_
      exact hQ _ _ ⟨(by simp only [size_put, hsz]), (by simp [t2]), (by simp [t3]), (by simp [t4])⟩ (by simp only [defers_put]) (by simp [t90]) (by rw [e82, e80]; exact (by simp [hsz])) hbd
end
end Go.Proofs.YtmdlmmfbcnkanaaR
namespace Go.Proofs.YtmdlmmfbcnkanaaR
open Go.RowKit Go.Shelf
section
variable {W0 : World} {b2 b3 b4 ba M : Nat} {Ds : List Nat} {m : List (List UInt8)} {h : Head}
attribute [local irreducible] AnyK StepK
set_option maxHeartbeats 400000 in
theorem rd_l3_any {r0 : Nat} {D : List Nat} {a : Act} {W : World} {Q : Exit → Act → World → Prop} (hh : HeadB h) (fr : RF b2 b3 b4 a) (hdf : a.defers = Ds.map mark) (t90 : a.eval (.tmp 90) = ptr r0) (i : RdA W0 b2 b3 b4 ba M Ds h m W) (it : IterAt nameV W r0 M (recMap m) D) (hr4 : b4 < r0) (hrD : r0 ∉ Ds)
    (hN : ∀ a' W' j r, m[j]? = some r → outOf h r = false → RF b2 b3 b4 a' → a'.defers = Ds.map mark → a'.eval (.tmp 90) = ptr r0 → RdA W0 b2 b3 b4 ba M Ds h m W' → IterAt nameV W' r0 M (recMap m) (D ++ [j]) → D.length < m.length → Q .normal a' W')
    (hX : ∀ a', (∀ j, j < m.length → j ∈ D) → RF b2 b3 b4 a' → a'.defers = Ds.map mark → Q (.exit 6) a' W)
    (hR : ∀ a' W' r, r ∈ m → outOf h r = true → RF b2 b3 b4 a' → a'.defers = Ds.map mark → RdE W0 b2 b3 b4 Ds 6 W' → Q .ret a' W') :
    rd_l3.wpIn Fence.wide 5 Try.prog Q a W := by
  obtain ⟨hsz, t2, t3, t4⟩ := fr
  obtain ⟨o1, o2, o3, o4, o5⟩ := i.ord
  unfold rd_l3
  rcases it.next (by omega) 0 with ⟨hall, hnx⟩ | ⟨j, k, v, W1, hjk, hlt, hnx, it1, he1⟩
  · skip
    refine wpIn_seq (region_p 2 ?_)
    intro K hK
    refine ListK.next (i := 0) (u := ptr r0) rfl (by simp [t90]) hnx ?_
    refine ListK.extract (i := 1) (u := .tuple #[.bool false]) (v := .bool false) rfl (by simp [hsz]) (ex0s _ _) ?_
    refine ListK.done (hK _ _ ?_)
    clear hK K
    refine wpIn_seq (wpIn_cond (t := false) (by simp [hsz]) (wpIn_exit ?_))
    exact hX _ (fun j hj => hall j (by simpa [recMap] using hj)) ⟨(by simp only [size_put, hsz]), (by simp [t2]), (by simp [t3]), (by simp [t4])⟩ (by simp only [defers_put, hdf])
  · have i1 := i.else he1 (fun k hk e => by omega) (fun D' hD' e => hrD (e ▸ hD'))
    obtain ⟨r, hr, hkr, hvr⟩ : ∃ r, m[j]? = some r ∧ k = nameOf r ∧ v = .agg (recC r) := by
      simp only [recMap, List.getElem?_map, Option.map_eq_some_iff, Prod.mk.injEq] at hjk
      obtain ⟨r, h1, h2, h3⟩ := hjk
      exact ⟨r, h1, h2.symm, h3.symm⟩
    subst hkr
    have hent := it1.entry hjk
    have hlt' : D.length < m.length := by simpa [recMap] using hlt
    refine wpIn_seq (region_p 2 ?_)
    intro K hK
    refine ListK.next (i := 0) (u := ptr r0) rfl (by simp [t90]) hnx ?_
    refine ListK.extract (i := 1) (u := .tuple #[.bool true, nameV (nameOf r), v]) (v := .bool true) rfl (by simp [hsz]) (ex0t _ _ _ _) ?_
    refine ListK.done (hK _ _ ?_)
    clear hK K
    refine wpIn_seq (wpIn_cond (t := true) (by simp [hsz]) (wpIn_skip ?_))
    generalize hA : Act.put _ _ _ = a1
    have hz_a1 : a1.tmps.size = 124 := by rw [← hA]; simp only [size_put, hsz]
    have u2 : a1.eval (.tmp 2) = .pointer (some ⟨b2, 0, none⟩) := by rw [← hA]; exact (by simp [t2])
    have u3 : a1.eval (.tmp 3) = .pointer (some ⟨b3, 0, none⟩) := by rw [← hA]; exact (by simp [t3])
    have u4 : a1.eval (.tmp 4) = .pointer (some ⟨b4, 0, none⟩) := by rw [← hA]; exact (by simp [t4])
    have u90 : a1.eval (.tmp 90) = .pointer (some ⟨r0, 0, none⟩) := by rw [← hA]; exact (by simp [t90])
    have hd_a1 : a1.defers = Ds.map mark := by rw [← hA]; simp only [defers_put, hdf]
    clear hA
    refine wpIn_block ?_
    refine wpIn_seq (region_p 4 ?_)
    intro K hK
    refine ListK.entry (i := 0) (u := ptr r0) rfl (by simp [u90]) hent ?_
    refine ListK.extract (i := 1) (u := .tuple #[nameV (nameOf r), v]) (v := nameV (nameOf r)) rfl (by simp [hz_a1]) (ex0 _ _ _) ?_
    refine ListK.alloc (i := 2) rfl (al97 W1) ?_
    refine ListK.store (i := 3) (u := .pointer (some ⟨W1.heap.size, 0, none⟩)) (u' := nameV (nameOf r)) rfl (by simp [hz_a1]) (by simp [hz_a1]) (st97 (Whole.new W1 97 #[.int .u8 0, .int .i64 0])) ?_
    refine ListK.done (hK _ _ ?_)
    clear hK K
    have hb2 : Below W1.heap.size W1 (((W1.alloc (.cells #[.int .u8 0, .int .i64 0] 97)).setCell ⟨W1.heap.size, 0, none⟩ (u8V (nameOf r).1)).setCell ⟨W1.heap.size, 1, none⟩ (.int .i64 ((nameOf r).2 : Int))) := (((Below.refl _ W1).alloc (Nat.le_refl _) _).setCell (p := ⟨W1.heap.size, 0, none⟩) (Nat.le_refl _) _).setCell (p := ⟨W1.heap.size, 1, none⟩) (Nat.le_refl _) _
    have w16 := ((Whole.new W1 97 #[.int .u8 0, .int .i64 0]).set 0 (u8V (nameOf r).1)).set 1 (.int .i64 ((nameOf r).2 : Int))
    have i2 := i1.below hb2
    have hrl : r0 < W1.heap.size := by obtain ⟨_, _, _, _, _, _, _, _, _, h6, _⟩ := it1.ex; exact (Array.getElem?_eq_some_iff.1 h6).1
    have it2 := it1.keep (hb2.block M i1.ar.lt.2) (hb2.block r0 hrl)
    have hrl2 : r0 < _ := Nat.lt_of_lt_of_le hrl hb2.size
    generalize W1.heap.size = b16 at *
    generalize (((W1.alloc (.cells #[.int .u8 0, .int .i64 0] 97)).setCell ⟨b16, 0, none⟩ (u8V (nameOf r).1)).setCell ⟨b16, 1, none⟩ (.int .i64 ((nameOf r).2 : Int))) = W2 at *
    generalize hA : Act.put _ _ _ = a2
    have hz_a2 : a2.tmps.size = 124 := by rw [← hA]; simp only [size_put, hz_a1]
    have v2 : a2.eval (.tmp 2) = .pointer (some ⟨b2, 0, none⟩) := by rw [← hA]; exact (by simp [u2])
    have v3 : a2.eval (.tmp 3) = .pointer (some ⟨b3, 0, none⟩) := by rw [← hA]; exact (by simp [u3])
    have v4 : a2.eval (.tmp 4) = .pointer (some ⟨b4, 0, none⟩) := by rw [← hA]; exact (by simp [u4])
    have v16 : a2.eval (.tmp 16) = .pointer (some ⟨b16, 0, none⟩) := by rw [← hA]; exact (by simp [hz_a1])
    have v90 : a2.eval (.tmp 90) = .pointer (some ⟨r0, 0, none⟩) := by rw [← hA]; exact (by simp [u90])
    have hd_a2 : a2.defers = Ds.map mark := by rw [← hA]; simp only [defers_put, hd_a1]
    clear hA
    refine wpIn_seq (rd_27 hh ⟨hz_a2, v2, v3, v4⟩ v16 v90 i2 w16 (fun a' W' fr' hdf' t90' t122 hb3 => ?_))
    have i3 := i2.below hb3
    have it3 := it2.keep (hb3.block M i2.ar.lt.2) (hb3.block r0 hrl2)
    rw [hd_a2] at hdf'
    have hout : ((nameOf r).1 == 82 && decide (h.many ≤ (nameOf r).2) || (nameOf r).1 == 80 && decide (h.blocks ≤ (nameOf r).2)) = outOf h r := rfl
    rw [hout] at t122
    cases ho : outOf h r with
    | false =>
      rw [ho] at t122
      refine wpIn_cond (t := false) t122 (wpIn_skip ?_)
      exact hN a' W' j r hr ho fr' hdf' t90' i3 it3 hlt'
    | true =>
      rw [ho] at t122
      refine wpIn_cond (t := true) t122 ?_
      obtain ⟨hsz', t2', t3', t4'⟩ := fr'
      obtain ⟨_, rfl, _, _, _, _, _, hc3, hf3⟩ := two_results (p := none) (c := 6) i3.low ⟨o1, o2, by omega⟩ i3.w2 i3.w3 i3.mks
      refine wpIn_seq (region_p 2 ?_)
      intro K hK
      refine ListK.store (i := 0) (u := .pointer (some ⟨b2, 0, none⟩)) (u' := .pointer none) rfl (by simp [t2']) (by simp) (st90 (i3.w2.cell 0) (i3.w2.frozen 0)) ?_
      refine ListK.store (i := 1) (u := .pointer (some ⟨b3, 0, none⟩)) (u' := .int .i64 6) rfl (by simp [t3']) (by simp) (st27 hc3 hf3) ?_
      refine ListK.done (hK _ _ (wpIn_ret ?_))
      exact hR _ _ r (List.mem_of_getElem? hr) ho ⟨hsz', t2', t3', t4'⟩ hdf' (i3.err 6)
end
end Go.Proofs.YtmdlmmfbcnkanaaR
namespace Go.Proofs.YtmdlmmfbcnkanaaR
open Go.RowKit Go.Shelf
section
variable {W0 : World} {b2 b3 b4 ba M : Nat} {Ds : List Nat} {m : List (List UInt8)}
attribute [local irreducible] AnyK StepK
theorem readC_of {L : List (List UInt8)} {hr : List UInt8} (h4 : L.any (fun l => decide (4000 < l.length)) = false) (ht : takeUp [] (L.flatMap goods) = some m) (hf : find m (72, 0) = some hr) : readC L = if m.any (outOf (headOf hr)) then 6 else 0 := by
  simp only [readC, h4, readE, ht, hf]
  simp
set_option maxHeartbeats 400000 in
theorem rd_fin_any {L : List (List UInt8)} {hr : List UInt8} {a : Act} {W : World} (hh : HeadB (headOf hr)) (h4 : L.any (fun l => decide (4000 < l.length)) = false) (ht : takeUp [] (L.flatMap goods) = some m) (hf : find m (72, 0) = some hr)
    (fr : RF b2 b3 b4 a) (hdf : a.defers = Ds.map mark) (i : RdA W0 b2 b3 b4 ba M Ds (headOf hr) m W) :
    rd_fin.wpIn Fence.wide 5 Try.prog (bodyPostM Fence.wide 5 Try.prog Try.f58 (ReadP W0 L)) a W := by
  have hrc := readC_of h4 ht hf
  obtain ⟨hsz, t2, t3, t4⟩ := fr
  obtain ⟨o1, o2, o3, o4, o5⟩ := i.ord
  obtain ⟨o, hrun, it⟩ := IterAt.new kl97 i.ar.map
  have hlt4 := i.lt
  unfold rd_fin
  refine wpIn_seq (wpIn_seq (region_p 5 ?_))
  intro K hK
  refine ListK.load (i := 0) (p := ⟨b4, 0, none⟩) (v := .pointer (some ⟨ba, 0, none⟩)) rfl (by simp [t4]) (ld90 (i.w4.cell 0)) ?_
  refine ListK.nilCheck (i := 1) (p := ⟨ba, 0, none⟩) rfl (by simp [hsz]) ?_
  refine ListK.field (i := 2) (u := .pointer (some ⟨ba, 0, none⟩)) (v := .pointer (some ⟨ba, 3, none⟩)) rfl (by simp [hsz]) (fa95_1 _) ?_
  refine ListK.load (i := 3) (p := ⟨ba, 3, none⟩) (v := .map (some M)) rfl (by simp [hsz]) (ld93m (i.ar.whole.cell 3)) ?_
  refine ListK.range (i := 4) (u := .map (some M)) rfl (by simp [hsz]) hrun ?_
  refine ListK.done (hK _ _ ?_)
  clear hK K
  have hb1 : Below W.heap.size W (W.alloc o) := (Below.refl _ W).alloc (Nat.le_refl _) _
  have i1 := i.below hb1
  have hrD : W.heap.size ∉ Ds := fun hD => by have := i.mks.lt hD; omega
  generalize W.heap.size = r0 at *
  generalize W.alloc o = W1 at *
  generalize hA : Act.put _ _ _ = a1
  have hz_a1 : a1.tmps.size = 124 := by rw [← hA]; simp only [size_put, hsz]
  have u2 : a1.eval (.tmp 2) = .pointer (some ⟨b2, 0, none⟩) := by rw [← hA]; exact (by simp [t2])
  have u3 : a1.eval (.tmp 3) = .pointer (some ⟨b3, 0, none⟩) := by rw [← hA]; exact (by simp [t3])
  have u4 : a1.eval (.tmp 4) = .pointer (some ⟨b4, 0, none⟩) := by rw [← hA]; exact (by simp [t4])
  have u90 : a1.eval (.tmp 90) = .pointer (some ⟨r0, 0, none⟩) := by rw [← hA]; exact (by simp [hsz])
  have hd_a1 : a1.defers = Ds.map mark := by rw [← hA]; simp only [defers_put, hdf]
  clear hA
  refine wpIn_block (wpIn_loop (fun a W' => ∃ D, IterAt nameV W' r0 M (recMap m) D ∧ RdA W0 b2 b3 b4 ba M Ds (headOf hr) m W' ∧ (∀ j r, j ∈ D → m[j]? = some r → outOf (headOf hr) r = false) ∧ RF b2 b3 b4 a ∧ a.defers = Ds.map mark ∧ a.eval (.tmp 90) = ptr r0) (fun _ W' => m.length - seenN W' r0)
    ⟨[], it, i1, fun _ _ h => by simp at h, ⟨hz_a1, u2, u3, u4⟩, hd_a1, u90⟩ ?_)
  rintro b1 W2 ⟨D, it2, i2, hD, fr2, hdf2, t902⟩
  refine rd_l3_any hh fr2 hdf2 t902 i2 it2 (by omega) hrD (fun a' W' j r hj ho fr' hdf' t90' i' it' hlt => ?_) (fun a' hall fr' hdf' => ?_) (fun a' W' r hr2 ho fr' hdf' e' => ?_)
  · refine ⟨⟨D ++ [j], it', i', fun j' r' hj' hr' => ?_, fr', hdf', t90'⟩, ?_⟩
    · rcases List.mem_append.1 hj' with hj' | hj'
      · exact hD j' r' hj' hr'
      · simp at hj'
        subst hj'
        rw [hj] at hr'
        cases hr'
        exact ho
    · rw [it'.seenN, it2.seenN]
      simp
      omega
  · have hno : m.any (outOf (headOf hr)) = false := by
      rw [List.any_eq_false]
      intro r hr2
      obtain ⟨j, hj⟩ := List.mem_iff_getElem?.1 hr2
      have := hD j r (hall j (List.getElem?_eq_some_iff.1 hj).1) hj
      simp [this]
    rw [hno] at hrc
    obtain ⟨hsz', t2', t3', t4'⟩ := fr'
    obtain ⟨_, rfl, _, _, _, _, _, hc3, hf3⟩ := two_results (p := some ⟨ba, 0, none⟩) (c := 0) i2.low ⟨o1, o2, by omega⟩ i2.w2 i2.w3 i2.mks
    show (Code.seq (.region 29 opsRd29 false) .ret).wpIn _ _ _ _ _ _
    refine wpIn_seq (region_p 3 ?_)
    intro K hK
    refine ListK.load (i := 0) (p := ⟨b4, 0, none⟩) (v := .pointer (some ⟨ba, 0, none⟩)) rfl (by simp [t4']) (ld90 (i2.w4.cell 0)) ?_
    refine ListK.store (i := 1) (u := .pointer (some ⟨b2, 0, none⟩)) (u' := .pointer (some ⟨ba, 0, none⟩)) rfl (by simp [t2']) (by simp [hsz']) (st90 (i2.w2.cell 0) (i2.w2.frozen 0)) ?_
    refine ListK.store (i := 2) (u := .pointer (some ⟨b3, 0, none⟩)) (u' := .int .i64 0) rfl (by simp [t3']) (by simp) (st27 hc3 hf3) ?_
    refine ListK.done (hK _ _ (wpIn_ret ?_))
    exact ret_arch i2 (by rw [hrc]; rfl) ht hf hno (by simp only [defers_put, hdf']) (by simp [t2']) (by simp [t3'])
  · have hyes : m.any (outOf (headOf hr)) = true := List.any_eq_true.2 ⟨r, hr2, ho⟩
    rw [hyes] at hrc
    exact ret_err e' (by omega) (by rw [hrc]; rfl) hdf' fr'.t2 fr'.t3
theorem head_b {r : List UInt8} (hg : isGood r = true) (hn : nameOf r = (72, 0)) : HeadB (headOf r) := by
  obtain ⟨c0, c1, c2, c3, c4, c5, c6, rfl⟩ := len7 (good_seven hg)
  have hc : c0 = 72 := by
    simp only [nameOf] at hn
    split at hn
    · rename_i h
      exact h
    · exact congrArg Prod.fst hn
  subst hc
  simp only [isGood, good7, Bool.and_eq_true, Bool.or_eq_true] at hg
  have hh : headOk (num2 c1 c2) (dig c3) (dig c4) = true := by
    have := hg.2
    simpa using this
  simp only [headOk, Bool.and_eq_true, inR_iff] at hh
  refine ⟨?_, ?_, ?_⟩ <;> simp only [headOf] <;> omega
end
end Go.Proofs.YtmdlmmfbcnkanaaR
namespace Go.Proofs.YtmdlmmfbcnkanaaR
open Go.RowKit Go.Shelf
section
variable {W0 : World} {b2 b3 b4 ba M : Nat} {Ds : List Nat} {m : List (List UInt8)}
attribute [local irreducible] AnyK StepK
set_option maxHeartbeats 400000 in
theorem rd_end_any {L : List (List UInt8)} {a : Act} {W : World} (h4 : L.any (fun l => decide (4000 < l.length)) = false) (ht : takeUp [] (L.flatMap goods) = some m)
    (fr : RF b2 b3 b4 a) (hdf : a.defers = Ds.map mark) (i : RdI W0 b2 b3 b4 ba M Ds m W) :
    rd_end.wpIn Fence.wide 5 Try.prog (bodyPostM Fence.wide 5 Try.prog Try.f58 (ReadP W0 L)) a W := by
  obtain ⟨hsz, t2, t3, t4⟩ := fr
  obtain ⟨o1, o2, o3, o4, o5⟩ := i.ord
  have hlt4 := i.lt
  obtain ⟨c0, c1, c2, c3, c4, c5, c6, hv, he⟩ : ∃ c0 c1 c2 c3 c4 c5 c6, ((find m (72, 0)).map recC).getD z7 = r7 c0 c1 c2 c3 c4 c5 c6 ∧ ∀ r, find m (72, 0) = some r → r = [c0, c1, c2, c3, c4, c5, c6] := by
    cases hf : find m (72, 0) with
    | none => exact ⟨0, 0, 0, 0, 0, 0, 0, rfl, fun r e => by cases e⟩
    | some r =>
      obtain ⟨c0, c1, c2, c3, c4, c5, c6, rfl⟩ := len7 (good_seven (i.gd r (find_mem hf).1))
      exact ⟨c0, c1, c2, c3, c4, c5, c6, rfl, fun r e => by cases e; rfl⟩
  have hlk : (Instr.lookup 93 (.map (some M)) (nameV (72, 0)) true).run Try.prog W = .ok (.tuple #[rV c0 c1 c2 c3 c4 c5 c6, .bool (find m (72, 0)).isSome]) W := by
    have h1 := i.mp.look2 kl97 (72, 0) zv83
    rw [getK_rec] at h1
    rw [h1]
    have h2 : ((find m (72, 0)).map fun r => Value.agg (recC r)).getD (.agg z7) = .agg (((find m (72, 0)).map recC).getD z7) := by
      cases find m (72, 0) <;> rfl
    rw [h2, hv]
    cases find m (72, 0) <;> rfl
  unfold rd_end
  refine wpIn_seq (region_p 12 ?_)
  intro K hK
  refine ListK.load (i := 0) (p := ⟨b4, 0, none⟩) (v := .pointer (some ⟨ba, 0, none⟩)) rfl (by simp [t4]) (ld90 (i.w4.cell 0)) ?_
  refine ListK.nilCheck (i := 1) (p := ⟨ba, 0, none⟩) rfl (by simp [hsz]) ?_
  refine ListK.field (i := 2) (u := .pointer (some ⟨ba, 0, none⟩)) (v := .pointer (some ⟨ba, 3, none⟩)) rfl (by simp [hsz]) (fa95_1 _) ?_
  refine ListK.load (i := 3) (p := ⟨ba, 3, none⟩) (v := .map (some M)) rfl (by simp [hsz]) (ld93m (i.wa.cell 3)) ?_
  refine ListK.bld (i := 4) (ps := #[(0, .int .u8 72), (1, .int .i64 0)]) (v := nameV (72, 0)) rfl (by simp) (bd97 _ _ _) ?_
  refine ListK.look2 (i := 5) (u := .map (some M)) (u' := nameV (72, 0)) rfl (by simp [hsz]) (by simp [hsz]) hlk ?_
  refine ListK.move (i := 6) (v := .tuple #[rV c0 c1 c2 c3 c4 c5 c6, .bool (find m (72, 0)).isSome]) rfl (by simp [hsz]) ?_
  refine ListK.extract (i := 7) (u := .tuple #[rV c0 c1 c2 c3 c4 c5 c6, .bool (find m (72, 0)).isSome]) (v := rV c0 c1 c2 c3 c4 c5 c6) rfl (by simp [hsz]) (ex0 _ _ _) ?_
  refine ListK.extract (i := 8) (u := .tuple #[rV c0 c1 c2 c3 c4 c5 c6, .bool (find m (72, 0)).isSome]) (v := .bool (find m (72, 0)).isSome) rfl (by simp [hsz]) (ex1 _ _ _) ?_
  refine ListK.alloc (i := 9) rfl (al83 W) ?_
  refine ListK.store (i := 10) (u := .pointer (some ⟨W.heap.size, 0, none⟩)) (u' := rV c0 c1 c2 c3 c4 c5 c6) rfl (by simp [hsz]) (by simp [hsz]) (st83 (Whole.new W 83 z7)) ?_
  refine ListK.assign (i := 11) (v := .bool (find m (72, 0)).isSome) rfl (by simp [hsz]) ?_
  refine ListK.done (hK _ _ ?_)
  clear hK K
  have w14 := put7_whole (Whole.new W 83 z7) (u8V c0) (u8V c1) (u8V c2) (u8V c3) (u8V c4) (u8V c5) (u8V c6)
  have hb1 : Below W.heap.size W (put7 (W.alloc (.cells z7 83)) W.heap.size (u8V c0) (u8V c1) (u8V c2) (u8V c3) (u8V c4) (u8V c5) (u8V c6)) := ((Below.refl _ W).alloc (Nat.le_refl _) _).trans ((put7_else (w := W.alloc (.cells z7 83)) (b := W.heap.size) (u8V c0) (u8V c1) (u8V c2) (u8V c3) (u8V c4) (u8V c5) (u8V c6)).below (by simp) (fun k hk e => by omega))
  have i1 := i.below hb1
  generalize W.heap.size = b14 at *
  generalize put7 (W.alloc (.cells z7 83)) b14 (u8V c0) (u8V c1) (u8V c2) (u8V c3) (u8V c4) (u8V c5) (u8V c6) = W1 at *
  generalize hA : Act.put _ _ _ = a1
  have hz_a1 : a1.tmps.size = 124 := by rw [← hA]; simp only [size_put, hsz]
  have u2 : a1.eval (.tmp 2) = .pointer (some ⟨b2, 0, none⟩) := by rw [← hA]; exact (by simp [t2])
  have u3 : a1.eval (.tmp 3) = .pointer (some ⟨b3, 0, none⟩) := by rw [← hA]; exact (by simp [t3])
  have u4 : a1.eval (.tmp 4) = .pointer (some ⟨b4, 0, none⟩) := by rw [← hA]; exact (by simp [t4])
  have u14 : a1.eval (.tmp 14) = .pointer (some ⟨b14, 0, none⟩) := by rw [← hA]; exact (by simp [hsz])
  have u15 : a1.eval (.tmp 15) = .bool (find m (72, 0)).isSome := by rw [← hA]; exact (by simp [hsz])
  have hd_a1 : a1.defers = Ds.map mark := by rw [← hA]; simp only [defers_put, hdf]
  clear hA
  cases hf : find m (72, 0) with
  | none =>
    rw [hf] at u15
    have q15 : a1.eval (.tmp 15) = .bool false := u15
    refine wpIn_seq (wpIn_seq (region_p 2 ?_))
    intro K hK
    refine ListK.move (i := 0) (v := .bool false) rfl (by simp [q15]) ?_
    refine ListK.un (i := 1) (u := .bool false) (v := .bool true) rfl (by simp [hz_a1]) (not4 _ _) ?_
    refine ListK.done (hK _ _ ?_)
    clear hK K
    refine wpIn_cond (t := true) (by simp [hz_a1]) ?_
    obtain ⟨_, rfl, _, _, _, _, _, hc3, hf3⟩ := two_results (p := none) (c := 7) i1.low ⟨o1, o2, by omega⟩ i1.w2 i1.w3 i1.mks
    refine wpIn_seq (region_p 2 ?_)
    intro K hK
    refine ListK.store (i := 0) (u := .pointer (some ⟨b2, 0, none⟩)) (u' := .pointer none) rfl (by simp [u2]) (by simp) (st90 (i1.w2.cell 0) (i1.w2.frozen 0)) ?_
    refine ListK.store (i := 1) (u := .pointer (some ⟨b3, 0, none⟩)) (u' := .int .i64 7) rfl (by simp [u3]) (by simp) (st27 hc3 hf3) ?_
    refine ListK.done (hK _ _ (wpIn_ret ?_))
    refine ret_err (i1.err 7) (by omega) ?_ (by simp only [defers_put, hd_a1]) (by simp [u2]) (by simp [u3])
    simp only [readC, h4, readE, ht, hf]
    simp
  | some r =>
    rw [hf] at u15
    have q15 : a1.eval (.tmp 15) = .bool true := u15
    obtain rfl := he r hf
    refine wpIn_seq (wpIn_seq (region_p 2 ?_))
    intro K hK
    refine ListK.move (i := 0) (v := .bool true) rfl (by simp [q15]) ?_
    refine ListK.un (i := 1) (u := .bool true) (v := .bool false) rfl (by simp [hz_a1]) (not4 _ _) ?_
    refine ListK.done (hK _ _ ?_)
    clear hK K
    refine wpIn_cond (t := false) (by simp [hz_a1]) (wpIn_skip ?_)
    generalize hA : Act.put _ _ _ = a2
    have hz_a2 : a2.tmps.size = 124 := by rw [← hA]; simp only [size_put, hz_a1]
    have v2 : a2.eval (.tmp 2) = .pointer (some ⟨b2, 0, none⟩) := by rw [← hA]; exact (by simp [u2])
    have v3 : a2.eval (.tmp 3) = .pointer (some ⟨b3, 0, none⟩) := by rw [← hA]; exact (by simp [u3])
    have v4 : a2.eval (.tmp 4) = .pointer (some ⟨b4, 0, none⟩) := by rw [← hA]; exact (by simp [u4])
    have v14 : a2.eval (.tmp 14) = .pointer (some ⟨b14, 0, none⟩) := by rw [← hA]; exact (by simp [u14])
    have hd_a2 : a2.defers = Ds.map mark := by rw [← hA]; simp only [defers_put, hd_a1]
    clear hA
    have hbd := (Below.refl W1.heap.size W1).drew
    refine wpIn_seq (region_K (KpR (fun w : World => RdI W0 b2 b3 b4 ba M Ds m w ∧ Whole w b14 83 (r7 c0 c1 c2 c3 c4 c5 c6)) (fun j => j == 5)) (wideF_plain _) (by kernel_rfl) Try.mixed ?_)
    change AnyK _ _ _ _ 6 (Array.replicate 6 false) _ _
    have hR : (fun w : World => RdI W0 b2 b3 b4 ba M Ds m w ∧ Whole w b14 83 (r7 c0 c1 c2 c3 c4 c5 c6)) W1.drew := ⟨i1.below hbd, w14.below hbd w14.lt⟩
    refine AnyK.load (i := 0) may_o (p := ⟨b4, 0, none⟩) (v := .pointer (some ⟨ba, 0, none⟩)) (by simp [v4]) (fun w hw => ld90 (hw.1.w4.cell 0)) hR ?_
    refine AnyK.load (i := 1) may_o (p := ⟨b14, 0, none⟩) (v := rV c0 c1 c2 c3 c4 c5 c6) (by simp [v14]) (fun w hw => ld83 hw.2) hR ?_
    refine AnyK.pick1 (i := 2) (by kernel_rfl) ?_
    refine StepK.call (i := 2) (f := 83) (vs := #[rV c0 c1 c2 c3 c4 c5 c6]) rfl (enters_of Try.func83 (by kernel_rfl) rfl) rfl (by simp [hz_a2]) ((rHead_any c0 c1 c2 c3 c4 c5 c6 W1.drew).mono ?_)
    rintro _ W2 ⟨rfl, hb2⟩
    have i2 := hR.1.below hb2
    have w142 := hR.2.below hb2 hR.2.lt
    replace hR : (fun w : World => RdI W0 b2 b3 b4 ba M Ds m w ∧ Whole w b14 83 (r7 c0 c1 c2 c3 c4 c5 c6)) W2 := ⟨i2, w142⟩
    refine ⟨_, rfl, fun _ _ => hR, ?_⟩
    refine AnyK.nilCheck (i := 3) (may_free rfl (by kernel_rfl) (by kernel_rfl) (by kernel_rfl)) (p := ⟨ba, 0, none⟩) (by simp [hz_a2]) trivial ?_
    refine AnyK.field (i := 4) (may_free rfl (by kernel_rfl) (by kernel_rfl) (by kernel_rfl)) (u := .pointer (some ⟨ba, 0, none⟩)) (v := .pointer (some ⟨ba, 0, none⟩)) (by simp [hz_a2]) (fun w => fa95_0 w) trivial ?_
    refine AnyK.pick1 (i := 5) (by kernel_rfl) ?_
    refine StepK.store (i := 5) (u := ptr ba) (u' := headV (num2 c1 c2) (dig c3) (dig c4)) rfl (by simp [hz_a2]) (by simp [hz_a2]) (st77a i2.wa) (fun h _ => absurd h (by decide)) ?_
    refine AnyK.done (by kernel_rfl) ?_
    have he3 : Else (fun k => k = ba) W2 (((W2.setCell ⟨ba, 0, none⟩ (.int .i64 (num2 c1 c2 : Int))).setCell ⟨ba, 1, none⟩ (.int .i64 (dig c3 : Int))).setCell ⟨ba, 2, none⟩ (.int .i64 (dig c4 : Int))) := (((Else.refl (fun k => k = ba) W2).setCell (p := ⟨ba, 0, none⟩) (.inl rfl) _).setCell (p := ⟨ba, 1, none⟩) (.inl rfl) _).setCell (p := ⟨ba, 2, none⟩) (.inl rfl) _
    have i3 : RdA W0 b2 b3 b4 ba M Ds (headOf [c0, c1, c2, c3, c4, c5, c6]) m _ := ⟨i2.low.trans (he3.below i2.low.size (fun k hk e => by omega)), i2.ord, he3.whole (by omega) i2.w2, he3.whole (by omega) i2.w3, he3.whole (by omega) i2.w4,
      ⟨((i2.wa.set 0 (.int .i64 (num2 c1 c2 : Int))).set 1 (.int .i64 (dig c3 : Int))).set 2 (.int .i64 (dig c4 : Int)), i2.mp.keep (he3.block M i2.mp.lt (by omega)), fun r hr => good_seven (i2.gd r hr)⟩, i2.gd, i2.mks.else he3 (fun D hD e => by have := (i2.mks.at_ D hD).1; omega)⟩
    exact rd_fin_any (head_b (i.gd _ (find_mem hf).1) (find_mem hf).2) h4 ht hf ⟨(by simp only [size_put, hz_a2]), (by simp [v2]), (by simp [v3]), (by simp [v4])⟩ (by simp only [defers_put, hd_a2]) i3
end
end Go.Proofs.YtmdlmmfbcnkanaaR
namespace Go.Proofs.YtmdlmmfbcnkanaaR
open Go.RowKit Go.Shelf
section
variable {W0 : World} {b2 b3 b4 ba M : Nat} {Ds : List Nat} {m : List (List UInt8)}
attribute [local irreducible] AnyK StepK
theorem flat_next {L : List (List UInt8)} {k : Nat} {l : List UInt8} (h : L[k]? = some l) : (L.take (k + 1)).flatMap goods = (L.take k).flatMap goods ++ goods l := by
  rw [List.take_add_one, h]
  simp
theorem flat_none {L : List (List UInt8)} {k : Nat} (h : takeUp [] ((L.take k).flatMap goods) = none) : takeUp [] (L.flatMap goods) = none := by
  have h1 : L = L.take k ++ L.drop k := (List.take_append_drop k L).symm
  rw [h1, List.flatMap_append, takeUp_append, h]
  rfl
set_option maxHeartbeats 400000 in
theorem rd_two_any {L : List (List UInt8)} {A : Option Addr} {cL : Nat} {a : Act} {W : World} (hn : L.length ≤ 1000) (hL : ListsAt W0 W0.heap.size A L) (h4 : L.any (fun l => decide (4000 < l.length)) = false)
    (fr : RF b2 b3 b4 a) (hdf : a.defers = []) (t0 : a.eval (.tmp 0) = .slice A L.length cL) (i : RdI W0 b2 b3 b4 ba M [] [] W) :
    rd_two.wpIn Fence.wide 5 Try.prog (bodyPostM Fence.wide 5 Try.prog Try.f58 (ReadP W0 L)) a W := by
  obtain ⟨hsz, t2, t3, t4⟩ := fr
  unfold rd_two
  have hln := fun (A : Option Addr) (n c : Nat) (t : TypeId) (w : World) => ln124 A n c t w
  refine wpIn_seq (wpIn_seq (region_p 3 ?_))
  intro K hK
  refine ListK.move (i := 0) (v := .slice A L.length cL) rfl (by simp [t0]) ?_
  refine ListK.len (i := 1) (u := .slice A L.length cL) (v := .int .i64 L.length) rfl (by simp [hsz]) (ln124 _ _ _ _ _) rfl ?_
  refine ListK.move (i := 2) (v := .int .i64 0) rfl (by simp) ?_
  refine ListK.done (hK _ _ ?_)
  clear hK K
  generalize hA : Act.put _ _ _ = a1
  have hz_a1 : a1.tmps.size = 124 := by rw [← hA]; simp only [size_put, hsz]
  have u2 : a1.eval (.tmp 2) = .pointer (some ⟨b2, 0, none⟩) := by rw [← hA]; exact (by simp [t2])
  have u3 : a1.eval (.tmp 3) = .pointer (some ⟨b3, 0, none⟩) := by rw [← hA]; exact (by simp [t3])
  have u4 : a1.eval (.tmp 4) = .pointer (some ⟨b4, 0, none⟩) := by rw [← hA]; exact (by simp [t4])
  have u30 : a1.eval (.tmp 30) = .slice A L.length cL := by rw [← hA]; exact (by simp [hsz])
  have u31 : a1.eval (.tmp 31) = .int .i64 L.length := by rw [← hA]; exact (by simp [hsz])
  have u32 : a1.eval (.tmp 32) = .int .i64 0 := by rw [← hA]; exact (by simp [hsz])
  have hd_a1 : a1.defers = [] := by rw [← hA]; simp only [defers_put, hdf]
  clear hA
  refine wpIn_block (wpIn_loop (fun a W' => ∃ k Ds m, k ≤ L.length ∧ takeUp [] ((L.take k).flatMap goods) = some m ∧ RdI W0 b2 b3 b4 ba M Ds m W' ∧ RF b2 b3 b4 a ∧ a.defers = Ds.map mark ∧ a.eval (.tmp 30) = .slice A L.length cL ∧ a.eval (.tmp 31) = .int .i64 (L.length : Int) ∧ a.eval (.tmp 32) = .int .i64 (k : Int)) (fun a _ => L.length - (intOf (a.eval (.tmp 32))).toNat)
    ⟨0, [], [], Nat.zero_le _, rfl, i, ⟨hz_a1, u2, u3, u4⟩, hd_a1, u30, u31, u32⟩ ?_)
  rintro b1 W1 ⟨k, Ds, m, hk, htk, i1, ⟨hz_b1, s2, s3, s4⟩, hdf1, s30, s31, s32⟩
  unfold rd_l2
  by_cases hlt : k < L.length
  · have hd : decide ((k : Int) < (L.length : Int)) = true := by simp; omega
    refine wpIn_seq (region_p 1 ?_)
    intro K hK
    refine ListK.bin (i := 0) (u := .int .i64 (k : Int)) (u' := .int .i64 (L.length : Int)) (v := .bool (decide ((k : Int) < (L.length : Int)))) rfl (by simp [s32]) (by simp [s31]) (lss3 _) ?_
    refine ListK.done (hK _ _ ?_)
    clear hK K
    rw [hd]
    refine wpIn_seq (wpIn_cond (t := true) (by simp [hz_b1]) (wpIn_skip ?_))
    generalize hA : Act.put _ _ _ = b2_
    have hz_b2_ : b2_.tmps.size = 124 := by rw [← hA]; simp only [size_put, hz_b1]
    have v2 : b2_.eval (.tmp 2) = .pointer (some ⟨b2, 0, none⟩) := by rw [← hA]; exact (by simp [s2])
    have v3 : b2_.eval (.tmp 3) = .pointer (some ⟨b3, 0, none⟩) := by rw [← hA]; exact (by simp [s3])
    have v4 : b2_.eval (.tmp 4) = .pointer (some ⟨b4, 0, none⟩) := by rw [← hA]; exact (by simp [s4])
    have v30 : b2_.eval (.tmp 30) = .slice A L.length cL := by rw [← hA]; exact (by simp [s30])
    have v31 : b2_.eval (.tmp 31) = .int .i64 (L.length : Int) := by rw [← hA]; exact (by simp [s31])
    have v32 : b2_.eval (.tmp 32) = .int .i64 (k : Int) := by rw [← hA]; exact (by simp [s32])
    have hd_b2_ : b2_.defers = Ds.map mark := by rw [← hA]; simp only [defers_put, hdf1]
    clear hA
    have hl := List.getElem?_eq_getElem hlt
    obtain ⟨lv, hlv⟩ : ∃ lv, lv = L[k] := ⟨_, rfl⟩
    rw [← hlv] at hl
    obtain ⟨b, off, rfl, hbB, Al, cl, hcl, hlc, hl5, hby⟩ := hL k lv hl
    have hcl1 := (i1.low.cell (p := ⟨b, off + k, none⟩) hbB).trans hcl
    refine wpIn_seq (wpIn_block ?_)
    refine wpIn_seq (region_p 3 ?_)
    intro K hK
    refine ListK.index (i := 0) (u := .slice (some ⟨b, off, none⟩) L.length cL) (u' := .int .i64 (k : Int)) (v := .pointer (some ⟨b, off + k, none⟩)) rfl (by simp [v30]) (by simp [v32]) (ix124 hlt _) ?_
    refine ListK.load (i := 1) (p := ⟨b, off + k, none⟩) (v := .slice Al lv.length cl) rfl (by simp [hz_b2_]) (ld31 (hcl1)) ?_
    refine ListK.assign (i := 2) (v := .slice Al lv.length cl) rfl (by simp [hz_b2_]) ?_
    refine ListK.done (hK _ _ ?_)
    clear hK K
    refine wpIn_seq (region_p 2 ?_)
    intro K hK
    refine ListK.move (i := 0) (v := .slice Al lv.length cl) rfl (by simp [hz_b2_]) ?_
    refine ListK.call (i := 1) (vs := #[.slice Al lv.length cl]) rfl (enters_of Try.func66 (by kernel_rfl) rfl) (by simp [hz_b2_]) ((pieces_any Al lv.length cl W1).mono ?_)
    rintro _ W2 ⟨rfl, rfl⟩
    refine ⟨_, rfl, ?_⟩
    refine ListK.done (hK _ _ ?_)
    clear hK K
    have hlt4 := i1.lt
    have hnD : W1.heap.size ∉ Ds := fun hD => by have := i1.mks.lt hD; omega
    have wbb := Whole.new W1 31 #[.slice Al lv.length cl]
    have i2 := i1.below ((Below.refl _ W1).alloc (Nat.le_refl _) (.cells #[.slice Al lv.length cl] 31))
    generalize W1.heap.size = bb at *
    generalize W1.alloc (.cells #[.slice Al lv.length cl] 31) = W2 at *
    generalize hA : Act.put _ _ _ = b3_
    have hz_b3_ : b3_.tmps.size = 124 := by rw [← hA]; simp only [size_put, hz_b2_]
    have q2 : b3_.eval (.tmp 2) = .pointer (some ⟨b2, 0, none⟩) := by rw [← hA]; exact (by simp [v2])
    have q3 : b3_.eval (.tmp 3) = .pointer (some ⟨b3, 0, none⟩) := by rw [← hA]; exact (by simp [v3])
    have q4 : b3_.eval (.tmp 4) = .pointer (some ⟨b4, 0, none⟩) := by rw [← hA]; exact (by simp [v4])
    have q30 : b3_.eval (.tmp 30) = .slice (some ⟨b, off, none⟩) L.length cL := by rw [← hA]; exact (by simp [v30])
    have q31 : b3_.eval (.tmp 31) = .int .i64 (L.length : Int) := by rw [← hA]; exact (by simp [v31])
    have q32 : b3_.eval (.tmp 32) = .int .i64 (k : Int) := by rw [← hA]; exact (by simp [v32])
    have q37 : b3_.eval (.tmp 37) = .func (.func 85) #[] #[ptr bb] := by rw [← hA]; exact (by simp [hz_b2_])
    have hd_b3_ : b3_.defers = Ds.map mark := by rw [← hA]; simp only [defers_put, hd_b2_]
    clear hA
    refine wpIn_block (rd_range_any hl5 hlc hby ⟨hz_b3_, q2, q3, q4⟩ q37 wbb hlt4 hnD i2 (fun D W3 m' ht i3 => ?_) (fun D W3 ht e3 => ?_))
    · show (Code.region 19 opsRd19 false).wpIn _ _ _ _ _ _
      obtain ⟨b4_, hb4⟩ : ∃ b4_ : Act, b4_ = { b3_ with defers := mark D :: b3_.defers } := ⟨_, rfl⟩
      rw [← hb4]
      have hz_b4_ : b4_.tmps.size = 124 := by rw [hb4]; exact hz_b3_
      have p2 : b4_.eval (.tmp 2) = ptr b2 := by rw [hb4, ev_df]; exact q2
      have p3 : b4_.eval (.tmp 3) = ptr b3 := by rw [hb4, ev_df]; exact q3
      have p4 : b4_.eval (.tmp 4) = ptr b4 := by rw [hb4, ev_df]; exact q4
      have p30 : b4_.eval (.tmp 30) = .slice (some ⟨b, off, none⟩) L.length cL := by rw [hb4, ev_df]; exact q30
      have p31 : b4_.eval (.tmp 31) = .int .i64 (L.length : Int) := by rw [hb4, ev_df]; exact q31
      have p32 : b4_.eval (.tmp 32) = .int .i64 (k : Int) := by rw [hb4, ev_df]; exact q32
      have hdf4 : b4_.defers = (D :: Ds).map mark := by rw [hb4, List.map_cons, ← hd_b3_]
      refine region_p 2 ?_
      intro K hK
      refine ListK.bin (i := 0) (u := .int .i64 (k : Int)) (u' := .int .i64 1) (v := .int .i64 ((k + 1 : Nat) : Int)) rfl (by simp [p32]) (by simp) (add3 (by omega) (by omega) _) ?_
      refine ListK.move (i := 1) (v := .int .i64 ((k + 1 : Nat) : Int)) rfl (by simp [hz_b4_]) ?_
      refine ListK.done (hK _ _ ?_)
      clear hK K
      refine ⟨⟨k + 1, D :: Ds, m', by omega, ?_, i3, ⟨(by simp only [size_put, hz_b4_]), (by simp [p2]), (by simp [p3]), (by simp [p4])⟩, (by simp only [defers_put, hdf4]), (by simp [p30]), (by simp [p31]), (by simp [hz_b4_])⟩, ?_⟩
      · rw [flat_next hl, takeUp_append, htk]
        exact ht
      · rw [s32, show (Act.put _ _ _).eval (.tmp 32) = .int .i64 ((k + 1 : Nat) : Int) from (by simp [hz_b4_])]
        simp only [intOf]
        omega
    · have hnone : takeUp [] (L.flatMap goods) = none := flat_none (k := k + 1) (by rw [flat_next hl, takeUp_append, htk]; exact ht)
      refine ret_err e3 (by omega) ?_ ?_ ((ev_df b3_ _ _).trans q2) ((ev_df b3_ _ _).trans q3)
      · simp only [readC, h4, readE, hnone]
        simp
      · simp [hd_b3_]
  · have hd : decide ((k : Int) < (L.length : Int)) = false := by simp; omega
    refine wpIn_seq (region_p 1 ?_)
    intro K hK
    refine ListK.bin (i := 0) (u := .int .i64 (k : Int)) (u' := .int .i64 (L.length : Int)) (v := .bool (decide ((k : Int) < (L.length : Int)))) rfl (by simp [s32]) (by simp [s31]) (lss3 _) ?_
    refine ListK.done (hK _ _ ?_)
    clear hK K
    rw [hd]
    refine wpIn_seq (wpIn_cond (t := false) (by simp [hz_b1]) (wpIn_exit ?_))
    have hkL : k = L.length := by omega
    rw [hkL, List.take_length] at htk
    exact rd_end_any h4 htk ⟨(by simp only [size_put, hz_b1]), (by simp [s2]), (by simp [s3]), (by simp [s4])⟩ (by simp only [defers_put, hdf1]) i1
set_option maxHeartbeats 400000 in
theorem read_any (L : List (List UInt8)) (A : Option Addr) (cL : Nat) (hn : L.length ≤ 1000) (W : World) (hL : ListsAt W W.heap.size A L) : Calls Try.prog 58 #[.slice A L.length cL] W (ReadP W L) := by
  refine (callsIn_wide (n := 5)).1 (callsIn_of_wp_marks Try.func58 body58 trivial ?_ rfl)
  obtain ⟨a, ha⟩ : ∃ a : Act, a = { tmps := #[.slice A L.length cL] ++ Array.replicate (Try.f58.ntmps - (#[.slice A L.length cL] : Array Value).size) undef, defers := [] } := ⟨_, rfl⟩
  have hsz : a.tmps.size = 124 := by rw [ha]; simp [Try.ntmps58]
  have t0 : a.eval (.tmp 0) = .slice A L.length cL := by rw [ha]; simp [Act.eval]
  have hdf : a.defers = [] := by rw [ha]
  rw [← ha]
  clear ha
  unfold code58
  refine wpIn_seq (region_p 2 ?_)
  intro K hK
  refine ListK.alloc (i := 0) rfl (al90 W) ?_
  refine ListK.alloc (i := 1) rfl (al27 _) ?_
  refine ListK.done (hK _ _ ?_)
  clear hK K
  have w2 := Whole.new W 90 #[.pointer none]
  have hb_b2 : Below W.heap.size W (W.alloc (.cells #[.pointer none] 90)) := (Below.refl _ W).alloc (Nat.le_refl _) _
  have hB := hb_b2
  generalize hq_b2 : W.heap.size = b2 at *
  generalize W.alloc (.cells #[.pointer none] 90) = W1 at *
  have w3 := Whole.new W1 27 #[.int .i64 0]
  have hb_b3 : Below W1.heap.size W1 (W1.alloc (.cells #[.int .i64 0] 27)) := (Below.refl _ W1).alloc (Nat.le_refl _) _
  replace hB := hB.trans (hb_b3.mono (by have := hB.size; omega))
  have hl_b2_b3 : b2 < W1.heap.size := w2.lt
  replace w2 := w2.below hb_b3 w2.lt
  generalize hq_b3 : W1.heap.size = b3 at *
  generalize W1.alloc (.cells #[.int .i64 0] 27) = W2 at *
  have hn_b2_b3 : b2 ≠ b3 := by omega
  generalize hA : Act.put _ _ _ = a1
  have hz_a1 : a1.tmps.size = 124 := by rw [← hA]; simp only [size_put, hsz]
  have u0 : a1.eval (.tmp 0) = .slice A L.length cL := by rw [← hA]; exact (by simp [t0])
  have u2 : a1.eval (.tmp 2) = .pointer (some ⟨b2, 0, none⟩) := by rw [← hA]; exact (by simp [hsz])
  have u3 : a1.eval (.tmp 3) = .pointer (some ⟨b3, 0, none⟩) := by rw [← hA]; exact (by simp [hsz])
  have hd_a1 : a1.defers = [] := by rw [← hA]; simp only [defers_put, hdf]
  clear hA
  have hmp0 := MapAt.new (kv := nameV) W2
  refine wpIn_seq (region_p 5 ?_)
  intro K hK
  refine ListK.mkM (i := 0) rfl (mm93 W2) ?_
  refine ListK.bld (i := 1) (ps := #[(1, .map (some W2.heap.size))]) (v := .agg #[.int .i64 0, .int .i64 0, .int .i64 0, .map (some W2.heap.size)]) rfl (by simp [hz_a1]) (bd95 _ _) ?_
  refine ListK.box (i := 2) (u := .agg #[.int .i64 0, .int .i64 0, .int .i64 0, .map (some W2.heap.size)]) rfl (by simp [hz_a1]) (bx95 (W2.alloc (.map #[] 0)) _ _ _ _) ?_
  refine ListK.alloc (i := 3) rfl (al90 _) ?_
  refine ListK.store (i := 4) (u := .pointer (some ⟨((W2.alloc (.map #[] 0)).alloc (.cells #[.int .i64 0, .int .i64 0, .int .i64 0, .map (some W2.heap.size)] 95)).heap.size, 0, none⟩)) (u' := .pointer (some ⟨(W2.alloc (.map #[] 0)).heap.size, 0, none⟩)) rfl (by simp [hz_a1]) (by simp [hz_a1]) (st90 ((Whole.new _ 90 #[.pointer none]).cell 0) ((Whole.new _ 90 #[.pointer none]).frozen 0)) ?_
  refine ListK.done (hK _ _ ?_)
  clear hK K
  have hbm : Below W2.heap.size W2 (W2.alloc (.map #[] 0)) := (Below.refl _ W2).alloc (Nat.le_refl _) _
  have hsB := hB.size
  have hl2 := w2.lt
  have hl3 := w3.lt
  replace hB := hB.trans (hbm.mono (by omega))
  replace w2 := w2.below hbm w2.lt
  replace w3 := w3.below hbm w3.lt
  have hmlt0 := hmp0.lt
  generalize hq_M : W2.heap.size = M at *
  generalize W2.alloc (.map #[] 0) = W3 at *
  have wa := Whole.new W3 95 #[.int .i64 0, .int .i64 0, .int .i64 0, .map (some M)]
  have hb_ba : Below W3.heap.size W3 (W3.alloc (.cells #[.int .i64 0, .int .i64 0, .int .i64 0, .map (some M)] 95)) := (Below.refl _ W3).alloc (Nat.le_refl _) _
  replace hB := hB.trans (hb_ba.mono (by have := hB.size; omega))
  have hl_b2_ba : b2 < W3.heap.size := w2.lt
  replace w2 := w2.below hb_ba w2.lt
  have hl_b3_ba : b3 < W3.heap.size := w3.lt
  replace w3 := w3.below hb_ba w3.lt
  replace hmp0 := hmp0.keep (hb_ba.block M hmp0.lt)
  generalize hq_ba : W3.heap.size = ba at *
  generalize W3.alloc (.cells #[.int .i64 0, .int .i64 0, .int .i64 0, .map (some M)] 95) = W4 at *
  have hn_b2_ba : b2 ≠ ba := by omega
  have hn_b3_ba : b3 ≠ ba := by omega
  have hmlt1 := hmp0.lt
  have w4 := Whole.new W4 90 #[.pointer none]
  have hb_b4 : Below W4.heap.size W4 (W4.alloc (.cells #[.pointer none] 90)) := (Below.refl _ W4).alloc (Nat.le_refl _) _
  replace hB := hB.trans (hb_b4.mono (by have := hB.size; omega))
  have hl_b2_b4 : b2 < W4.heap.size := w2.lt
  replace w2 := w2.below hb_b4 w2.lt
  have hl_b3_b4 : b3 < W4.heap.size := w3.lt
  replace w3 := w3.below hb_b4 w3.lt
  have hl_ba_b4 : ba < W4.heap.size := wa.lt
  replace wa := wa.below hb_b4 wa.lt
  replace hmp0 := hmp0.keep (hb_b4.block M hmp0.lt)
  generalize hq_b4 : W4.heap.size = b4 at *
  generalize W4.alloc (.cells #[.pointer none] 90) = W5 at *
  have hn_b2_b4 : b2 ≠ b4 := by omega
  have hn_b3_b4 : b3 ≠ b4 := by omega
  have hn_ba_b4 : ba ≠ b4 := by omega
  have he_W6 : Else (fun k => k = b4) W5 (W5.setCell ⟨b4, 0, none⟩ (ptr ba)) := (Else.refl (fun k => k = b4) W5).setCell (p := ⟨b4, 0, none⟩) (.inl rfl) _
  replace w4 := w4.set 0 (ptr ba)
  replace w2 := he_W6.whole hn_b2_b4 w2
  replace w3 := he_W6.whole hn_b3_b4 w3
  replace wa := he_W6.whole hn_ba_b4 wa
  replace hmp0 := hmp0.keep (he_W6.block M hmp0.lt (by omega))
  replace hB := hB.setCell (p := ⟨b4, 0, none⟩) ((by show b2 ≤ b4; omega)) (ptr ba)
  generalize (W5.setCell ⟨b4, 0, none⟩ (ptr ba)) = W6 at *
  generalize hA : Act.put _ _ _ = a2
  have hz_a2 : a2.tmps.size = 124 := by rw [← hA]; simp only [size_put, hz_a1]
  have v0 : a2.eval (.tmp 0) = .slice A L.length cL := by rw [← hA]; exact (by simp [u0])
  have v2 : a2.eval (.tmp 2) = .pointer (some ⟨b2, 0, none⟩) := by rw [← hA]; exact (by simp [u2])
  have v3 : a2.eval (.tmp 3) = .pointer (some ⟨b3, 0, none⟩) := by rw [← hA]; exact (by simp [u3])
  have v4 : a2.eval (.tmp 4) = .pointer (some ⟨b4, 0, none⟩) := by rw [← hA]; exact (by simp [hz_a1])
  have hd_a2 : a2.defers = [] := by rw [← hA]; simp only [defers_put, hd_a1]
  clear hA
  have i : RdI W b2 b3 b4 ba M [] [] W6 := ⟨by rw [hq_b2]; exact hB, ⟨by omega, by omega, by omega, by omega, by omega⟩, w2, w3, w4, wa, hmp0, fun r hr => by simp at hr, Mk.nil _ _⟩
  rw [← hq_b2] at hL
  refine wpIn_seq (wpIn_seq (region_p 3 ?_))
  intro K hK
  refine ListK.move (i := 0) (v := .slice A L.length cL) rfl (by simp [v0]) ?_
  refine ListK.len (i := 1) (u := .slice A L.length cL) (v := .int .i64 L.length) rfl (by simp [hz_a2]) (ln124 _ _ _ _ _) rfl ?_
  refine ListK.move (i := 2) (v := .int .i64 0) rfl (by simp) ?_
  refine ListK.done (hK _ _ ?_)
  clear hK K
  generalize hA : Act.put _ _ _ = a3
  have hz_a3 : a3.tmps.size = 124 := by rw [← hA]; simp only [size_put, hz_a2]
  have q0 : a3.eval (.tmp 0) = .slice A L.length cL := by rw [← hA]; exact (by simp [v0])
  have q2 : a3.eval (.tmp 2) = .pointer (some ⟨b2, 0, none⟩) := by rw [← hA]; exact (by simp [v2])
  have q3 : a3.eval (.tmp 3) = .pointer (some ⟨b3, 0, none⟩) := by rw [← hA]; exact (by simp [v3])
  have q4 : a3.eval (.tmp 4) = .pointer (some ⟨b4, 0, none⟩) := by rw [← hA]; exact (by simp [v4])
  have q20 : a3.eval (.tmp 20) = .slice A L.length cL := by rw [← hA]; exact (by simp [hz_a2])
  have q21 : a3.eval (.tmp 21) = .int .i64 L.length := by rw [← hA]; exact (by simp [hz_a2])
  have q22 : a3.eval (.tmp 22) = .int .i64 0 := by rw [← hA]; exact (by simp [hz_a2])
  have hd_a3 : a3.defers = [] := by rw [← hA]; simp only [defers_put, hd_a2]
  clear hA
  refine wpIn_block (wpIn_loop (fun a W' => ∃ k : Nat, k ≤ L.length ∧ (∀ j l, j < k → L[j]? = some l → ¬ 4000 < l.length) ∧ RdI W b2 b3 b4 ba M [] [] W' ∧ RF b2 b3 b4 a ∧ a.defers = [] ∧ a.eval (.tmp 0) = .slice A L.length cL ∧ a.eval (.tmp 20) = .slice A L.length cL ∧ a.eval (.tmp 21) = .int .i64 (L.length : Int) ∧ a.eval (.tmp 22) = .int .i64 (k : Int)) (fun a _ => L.length - (intOf (a.eval (.tmp 22))).toNat)
    ⟨0, Nat.zero_le _, fun j l h => by omega, i, ⟨hz_a3, q2, q3, q4⟩, hd_a3, q0, q20, q21, q22⟩ ?_)
  rintro b1 W7 ⟨k, hk, hno, i1, ⟨hz_b1, s2, s3, s4⟩, hdf1, s0, s20, s21, s22⟩
  unfold rd_l1
  by_cases hlt : k < L.length
  · have hd : decide ((k : Int) < (L.length : Int)) = true := by simp; omega
    refine wpIn_seq (region_p 1 ?_)
    intro K hK
    refine ListK.bin (i := 0) (u := .int .i64 (k : Int)) (u' := .int .i64 (L.length : Int)) (v := .bool (decide ((k : Int) < (L.length : Int)))) rfl (by simp [s22]) (by simp [s21]) (lss3 _) ?_
    refine ListK.done (hK _ _ ?_)
    clear hK K
    rw [hd]
    refine wpIn_seq (wpIn_cond (t := true) (by simp [hz_b1]) (wpIn_skip ?_))
    generalize hA : Act.put _ _ _ = b2_
    have hz_b2_ : b2_.tmps.size = 124 := by rw [← hA]; simp only [size_put, hz_b1]
    have r0 : b2_.eval (.tmp 0) = .slice A L.length cL := by rw [← hA]; exact (by simp [s0])
    have r2 : b2_.eval (.tmp 2) = .pointer (some ⟨b2, 0, none⟩) := by rw [← hA]; exact (by simp [s2])
    have r3 : b2_.eval (.tmp 3) = .pointer (some ⟨b3, 0, none⟩) := by rw [← hA]; exact (by simp [s3])
    have r4 : b2_.eval (.tmp 4) = .pointer (some ⟨b4, 0, none⟩) := by rw [← hA]; exact (by simp [s4])
    have r20 : b2_.eval (.tmp 20) = .slice A L.length cL := by rw [← hA]; exact (by simp [s20])
    have r21 : b2_.eval (.tmp 21) = .int .i64 (L.length : Int) := by rw [← hA]; exact (by simp [s21])
    have r22 : b2_.eval (.tmp 22) = .int .i64 (k : Int) := by rw [← hA]; exact (by simp [s22])
    have hd_b2_ : b2_.defers = [] := by rw [← hA]; simp only [defers_put, hdf1]
    clear hA
    have hl := List.getElem?_eq_getElem hlt
    obtain ⟨lv, hlv⟩ : ∃ lv, lv = L[k] := ⟨_, rfl⟩
    rw [← hlv] at hl
    obtain ⟨b, off, rfl, hbB, Al, cl, hcl, hlc, hl5, hby⟩ := hL k lv hl
    have hcl1 := (i1.low.cell (p := ⟨b, off + k, none⟩) hbB).trans hcl
    refine wpIn_seq (wpIn_block ?_)
    refine wpIn_seq (region_p 3 ?_)
    intro K hK
    refine ListK.index (i := 0) (u := .slice (some ⟨b, off, none⟩) L.length cL) (u' := .int .i64 (k : Int)) (v := .pointer (some ⟨b, off + k, none⟩)) rfl (by simp [r20]) (by simp [r22]) (ix124 hlt _) ?_
    refine ListK.load (i := 1) (p := ⟨b, off + k, none⟩) (v := .slice Al lv.length cl) rfl (by simp [hz_b2_]) (ld31 (hcl1)) ?_
    refine ListK.assign (i := 2) (v := .slice Al lv.length cl) rfl (by simp [hz_b2_]) ?_
    refine ListK.done (hK _ _ ?_)
    clear hK K
    generalize hA : Act.put _ _ _ = b3_
    have hz_b3_ : b3_.tmps.size = 124 := by rw [← hA]; simp only [size_put, hz_b2_]
    have p0 : b3_.eval (.tmp 0) = .slice (some ⟨b, off, none⟩) L.length cL := by rw [← hA]; exact (by simp [r0])
    have p2 : b3_.eval (.tmp 2) = .pointer (some ⟨b2, 0, none⟩) := by rw [← hA]; exact (by simp [r2])
    have p3 : b3_.eval (.tmp 3) = .pointer (some ⟨b3, 0, none⟩) := by rw [← hA]; exact (by simp [r3])
    have p4 : b3_.eval (.tmp 4) = .pointer (some ⟨b4, 0, none⟩) := by rw [← hA]; exact (by simp [r4])
    have p6 : b3_.eval (.tmp 6) = .slice Al lv.length cl := by rw [← hA]; exact (by simp [hz_b2_])
    have p20 : b3_.eval (.tmp 20) = .slice (some ⟨b, off, none⟩) L.length cL := by rw [← hA]; exact (by simp [r20])
    have p21 : b3_.eval (.tmp 21) = .int .i64 (L.length : Int) := by rw [← hA]; exact (by simp [r21])
    have p22 : b3_.eval (.tmp 22) = .int .i64 (k : Int) := by rw [← hA]; exact (by simp [r22])
    have hd_b3_ : b3_.defers = [] := by rw [← hA]; simp only [defers_put, hd_b2_]
    clear hA
    by_cases h4 : 4000 < lv.length
    · have hd4 : decide ((4000 : Int) < (lv.length : Int)) = true := by simp; omega
      refine wpIn_seq (region_p 3 ?_)
      intro K hK
      refine ListK.move (i := 0) (v := .slice Al lv.length cl) rfl (by simp [p6]) ?_
      refine ListK.len (i := 1) (u := .slice Al lv.length cl) (v := .int .i64 lv.length) rfl (by simp [hz_b3_]) (ln31 _ _ _ _ _) rfl ?_
      refine ListK.bin (i := 2) (u := .int .i64 lv.length) (u' := .int .i64 4000) (v := .bool (decide ((4000 : Int) < (lv.length : Int)))) rfl (by simp [hz_b3_]) (by simp) (gtr3 _) ?_
      refine ListK.done (hK _ _ ?_)
      clear hK K
      rw [hd4]
      refine wpIn_cond (t := true) (by simp [hz_b3_]) ?_
      obtain ⟨_, rfl, _, _, _, _, _, hc3, hf3⟩ := two_results (p := none) (c := 3) i1.low ⟨i1.ord.1, i1.ord.2.1, by have := i1.ord; omega⟩ i1.w2 i1.w3 i1.mks
      refine wpIn_seq (region_p 2 ?_)
      intro K hK
      refine ListK.store (i := 0) (u := .pointer (some ⟨b2, 0, none⟩)) (u' := .pointer none) rfl (by simp [p2]) (by simp) (st90 (i1.w2.cell 0) (i1.w2.frozen 0)) ?_
      refine ListK.store (i := 1) (u := .pointer (some ⟨b3, 0, none⟩)) (u' := .int .i64 3) rfl (by simp [p3]) (by simp) (st27 hc3 hf3) ?_
      refine ListK.done (hK _ _ (wpIn_ret ?_))
      refine ret_err (i1.err 3) (by omega) ?_ (by simp only [defers_put, hd_b3_]; rfl) (by simp [p2]) (by simp [p3])
      have hany : L.any (fun l => decide (4000 < l.length)) = true := List.any_eq_true.2 ⟨lv, List.mem_of_getElem? hl, by simpa using h4⟩
      simp only [readC, hany]
      simp
    · have hd4 : decide ((4000 : Int) < (lv.length : Int)) = false := by simp; omega
      refine wpIn_seq (region_p 3 ?_)
      intro K hK
      refine ListK.move (i := 0) (v := .slice Al lv.length cl) rfl (by simp [p6]) ?_
      refine ListK.len (i := 1) (u := .slice Al lv.length cl) (v := .int .i64 lv.length) rfl (by simp [hz_b3_]) (ln31 _ _ _ _ _) rfl ?_
      refine ListK.bin (i := 2) (u := .int .i64 lv.length) (u' := .int .i64 4000) (v := .bool (decide ((4000 : Int) < (lv.length : Int)))) rfl (by simp [hz_b3_]) (by simp) (gtr3 _) ?_
      refine ListK.done (hK _ _ ?_)
      clear hK K
      rw [hd4]
      refine wpIn_cond (t := false) (by simp [hz_b3_]) (wpIn_skip ?_)
      generalize hA : Act.put _ _ _ = b4_
      have hz_b4_ : b4_.tmps.size = 124 := by rw [← hA]; simp only [size_put, hz_b3_]
      have o0 : b4_.eval (.tmp 0) = .slice (some ⟨b, off, none⟩) L.length cL := by rw [← hA]; exact (by simp [p0])
      have o2 : b4_.eval (.tmp 2) = .pointer (some ⟨b2, 0, none⟩) := by rw [← hA]; exact (by simp [p2])
      have o3 : b4_.eval (.tmp 3) = .pointer (some ⟨b3, 0, none⟩) := by rw [← hA]; exact (by simp [p3])
      have o4 : b4_.eval (.tmp 4) = .pointer (some ⟨b4, 0, none⟩) := by rw [← hA]; exact (by simp [p4])
      have o20 : b4_.eval (.tmp 20) = .slice (some ⟨b, off, none⟩) L.length cL := by rw [← hA]; exact (by simp [p20])
      have o21 : b4_.eval (.tmp 21) = .int .i64 (L.length : Int) := by rw [← hA]; exact (by simp [p21])
      have o22 : b4_.eval (.tmp 22) = .int .i64 (k : Int) := by rw [← hA]; exact (by simp [p22])
      have hd_b4_ : b4_.defers = [] := by rw [← hA]; simp only [defers_put, hd_b3_]
      clear hA
      refine region_p 2 ?_
      intro K hK
      refine ListK.bin (i := 0) (u := .int .i64 (k : Int)) (u' := .int .i64 1) (v := .int .i64 ((k + 1 : Nat) : Int)) rfl (by simp [o22]) (by simp) (add3 (by omega) (by omega) _) ?_
      refine ListK.move (i := 1) (v := .int .i64 ((k + 1 : Nat) : Int)) rfl (by simp [hz_b4_]) ?_
      refine ListK.done (hK _ _ ?_)
      clear hK K
      refine ⟨⟨k + 1, by omega, fun j l hj hjl => ?_, i1, ⟨(by simp only [size_put, hz_b4_]), (by simp [o2]), (by simp [o3]), (by simp [o4])⟩, (by simp only [defers_put, hd_b4_]), (by simp [o0]), (by simp [o20]), (by simp [o21]), (by simp [hz_b4_])⟩, ?_⟩
      · by_cases e : j = k
        · subst e
          rw [hl] at hjl
          cases hjl
          exact h4
        · exact hno j l (by omega) hjl
      · rw [s22, show (Act.put _ _ _).eval (.tmp 22) = .int .i64 ((k + 1 : Nat) : Int) from (by simp [hz_b4_])]
        simp only [intOf]
        omega
  · have hd : decide ((k : Int) < (L.length : Int)) = false := by simp; omega
    refine wpIn_seq (region_p 1 ?_)
    intro K hK
    refine ListK.bin (i := 0) (u := .int .i64 (k : Int)) (u' := .int .i64 (L.length : Int)) (v := .bool (decide ((k : Int) < (L.length : Int)))) rfl (by simp [s22]) (by simp [s21]) (lss3 _) ?_
    refine ListK.done (hK _ _ ?_)
    clear hK K
    rw [hd]
    refine wpIn_seq (wpIn_cond (t := false) (by simp [hz_b1]) (wpIn_exit ?_))
    have h4 : L.any (fun l => decide (4000 < l.length)) = false := by
      rw [List.any_eq_false]
      intro l hl
      obtain ⟨j, hj⟩ := List.mem_iff_getElem?.1 hl
      have := hno j l (by have := (List.getElem?_eq_some_iff.1 hj).1; omega) hj
      simpa using this
    exact rd_two_any (cL := cL) hn hL h4 ⟨(by simp only [size_put, hz_b1]), (by simp [s2]), (by simp [s3]), (by simp [s4])⟩ (by simp only [defers_put, hdf1]) (by simp [s0]) i1
end
end Go.Proofs.YtmdlmmfbcnkanaaR
namespace Go.Proofs.YtmdlmmfbcnkanaaR
open Go.RowKit Go.Shelf
/-- What is read, of one list. -/
def readM (l : List UInt8) : Option (Head × List (List UInt8)) :=
  if readC [l] = 0 then (takeUp [] (goods l)).bind fun m => (find m (72, 0)).map fun hr => (headOf hr, m) else none
def mendC (l : List UInt8) : Int := match readM l with
  | none => readC [l]
  | some (h, m) => if goB h m h.many 0 0 0 then 0 else 9
/-- What Mend hands back. -/
def MendP (W : World) (l : List UInt8) : Ending → World → Prop := fun e w' => Below W.heap.size W w' ∧ ∃ A n c, e = .returned (.tuple #[.slice A n c, .int .i64 (mendC l)]) ∧ (mendC l ≠ 0 → A = none ∧ n = 0 ∧ c = 0) ∧
  (mendC l = 0 → ∃ h m g f, readM l = some (h, m) ∧ (∀ r, r ∈ m → isGood r = true) ∧ HeadB h ∧ A = some ⟨g, 0, none⟩ ∧ n = h.many ∧ c = h.many ∧ Row w' g (h.many * 2) f ∧ ∀ i, i < h.many → f (i * 2) = loAt h m i ∧ f (i * 2 + 1) = hiAt h m i)
theorem ReadP.val {W W' : World} {L : List (List UInt8)} {e : Ending} (h : ReadP W L e W') : ∃ p, e = .returned (.tuple #[.pointer p, .int .i64 (readC L)]) ∧ Below W.heap.size W W' ∧
    (readC L = 0 → ∃ b M hr m, p = some ⟨b, 0, none⟩ ∧ takeUp [] (L.flatMap goods) = some m ∧ find m (72, 0) = some hr ∧ ArchAt W' b M (headOf hr) m ∧ (∀ r, r ∈ m → isGood r = true) ∧ m.any (outOf (headOf hr)) = false) := by
  obtain ⟨hb, ⟨h1, rfl⟩ | ⟨h1, b, M, hr, m, rfl, h2, h3, h4, h5, h6⟩⟩ := h
  · exact ⟨none, rfl, hb, fun h => absurd h h1⟩
  · exact ⟨some ⟨b, 0, none⟩, by rw [h1], hb, fun _ => ⟨b, M, hr, m, rfl, h2, h3, h4, h5, h6⟩⟩
theorem bs124 (A : Option Addr) (n c : Nat) (w : World) : (Instr.buildSlice 124 1 #[(0, .slice A n c)]).run Try.prog w = .ok (.slice (some ⟨w.heap.size, 0, none⟩) 1 1) (w.alloc (.cells #[.slice A n c] 31)) := by go_simp
theorem lists_one {W : World} {A : Option Addr} {l : List UInt8} {c : Nat} (hc : l.length ≤ c) (hl : l.length ≤ 100000) (hs : BytesAt W W.heap.size A l) :
    ListsAt (W.alloc (.cells #[.slice A l.length c] 31)) (W.alloc (.cells #[.slice A l.length c] 31)).heap.size (some ⟨W.heap.size, 0, none⟩) [l] := by
  intro k x hx
  match k, hx with
  | 0, hx =>
    simp at hx
    subst hx
    refine ⟨_, _, rfl, by simp, A, c, (Whole.new W 31 #[.slice A l.length c]).cell 0, hc, hl, ?_⟩
    exact (hs.below ((Below.refl W.heap.size W).alloc (Nat.le_refl _) _) (Nat.le_refl _)).more (by simp)
noncomputable def opsMed0 : Array Oper := (Try.f55.body.bind (regionOf 0)).getD #[]
noncomputable def opsMed1 : Array Oper := (Try.f55.body.bind (regionOf 1)).getD #[]
noncomputable def opsMed2 : Array Oper := (Try.f55.body.bind (regionOf 2)).getD #[]
noncomputable def opsMed3 : Array Oper := (Try.f55.body.bind (regionOf 3)).getD #[]
noncomputable def opsMed4 : Array Oper := (Try.f55.body.bind (regionOf 4)).getD #[]
noncomputable def opsMed5 : Array Oper := (Try.f55.body.bind (regionOf 5)).getD #[]
noncomputable def opsMed6 : Array Oper := (Try.f55.body.bind (regionOf 6)).getD #[]
noncomputable def opsMed7 : Array Oper := (Try.f55.body.bind (regionOf 7)).getD #[]
noncomputable def code55 : Code := (.seq (.region 0 opsMed0 false) (.seq (.region 1 opsMed1 false) (.seq (.seq (.region 2 opsMed2 false) (.cond (.tmp 15) (.seq (.region 3 opsMed3 false) .ret) .skip)) (.seq (.region 4 opsMed4 false) (.seq (.seq (.region 5 opsMed5 false) (.cond (.tmp 23) (.seq (.region 6 opsMed6 false) .ret) .skip)) (.seq (.region 7 opsMed7 false) .ret))))))
theorem body55 : Try.f55.body = some code55 := by kernel_rfl
set_option maxHeartbeats 400000 in
theorem mended_any (A : Option Addr) (l : List UInt8) (c : Nat) (W : World) (hc : l.length ≤ c) (hl : l.length ≤ 100000) (hs : BytesAt W W.heap.size A l) : Calls Try.prog 55 #[.slice A l.length c] W (MendP W l) := by
  refine (callsIn_wide (n := 5)).1 (callsIn_of_wp Try.func55 body55 trivial ?_ rfl)
  obtain ⟨a, ha⟩ : ∃ a : Act, a = { tmps := #[.slice A l.length c] ++ Array.replicate (Try.f55.ntmps - (#[.slice A l.length c] : Array Value).size) undef, defers := [] } := ⟨_, rfl⟩
  have hsz : a.tmps.size = 25 := by rw [ha]; simp [Try.ntmps55]
  have t0 : a.eval (.tmp 0) = .slice A l.length c := by rw [ha]; simp [Act.eval]
  have hd_a : a.defers = [] := by rw [ha]
  rw [← ha]
  clear ha
  unfold code55
  refine wpIn_seq (region_p 2 ?_)
  intro K hK
  refine ListK.assign (i := 0) (v := .slice none 0 0) rfl (by simp) ?_
  refine ListK.assign (i := 1) (v := .int .i64 0) rfl (by simp) ?_
  refine ListK.done (hK _ _ ?_)
  clear hK K
  generalize hA : Act.put _ _ _ = a1
  have hz_a1 : a1.tmps.size = 25 := by rw [← hA]; simp only [size_put, hsz]
  have u0 : a1.eval (.tmp 0) = .slice A l.length c := by rw [← hA]; exact (by simp [t0])
  have hd_a1 : a1.defers = [] := by rw [← hA]; simp only [defers_put, hd_a]
  clear hA
  have hb1 : Below W.heap.size W (W.alloc (.cells #[.slice A l.length c] 31)) := (Below.refl _ W).alloc (Nat.le_refl _) _
  have hrd := read_any [l] (some ⟨W.heap.size, 0, none⟩) 1 (by simp) _ (lists_one hc hl hs)
  refine wpIn_seq (region_p 8 ?_)
  intro K hK
  refine ListK.move (i := 0) (v := .slice A l.length c) rfl (by simp [u0]) ?_
  refine ListK.bsl (i := 1) (ps := #[(0, .slice A l.length c)]) (v := .slice (some ⟨W.heap.size, 0, none⟩) 1 1) rfl (by simp [hz_a1]) (bs124 _ _ _ W) ?_
  refine ListK.call (i := 2) (vs := #[.slice (some ⟨W.heap.size, 0, none⟩) 1 1]) rfl (enters_of Try.func58 (by kernel_rfl) rfl) (by simp [hz_a1]) ((hrd).mono ?_)
  rintro e W2 hrp
  obtain ⟨p, rfl, hb2, hok⟩ := hrp.val
  refine ⟨_, rfl, ?_⟩
  refine ListK.move (i := 3) (v := .tuple #[.pointer p, .int .i64 (readC [l])]) rfl (by simp [hz_a1]) ?_
  refine ListK.extract (i := 4) (u := .tuple #[.pointer p, .int .i64 (readC [l])]) (v := .pointer p) rfl (by simp [hz_a1]) (ex0 _ _ _) ?_
  refine ListK.extract (i := 5) (u := .tuple #[.pointer p, .int .i64 (readC [l])]) (v := .int .i64 (readC [l])) rfl (by simp [hz_a1]) (ex1 _ _ _) ?_
  refine ListK.assign (i := 6) (v := .pointer p) rfl (by simp [hz_a1]) ?_
  refine ListK.assign (i := 7) (v := .int .i64 (readC [l])) rfl (by simp [hz_a1]) ?_
  refine ListK.done (hK _ _ ?_)
  clear hK K
  have hB2 := hb1.trans (hb2.mono (by have := hb1.size; omega))
  generalize hA : Act.put _ _ _ = a2
  have hz_a2 : a2.tmps.size = 25 := by rw [← hA]; simp only [size_put, hz_a1]
  have v4 : a2.eval (.tmp 4) = .pointer p := by rw [← hA]; exact (by simp [hz_a1])
  have v5 : a2.eval (.tmp 5) = .int .i64 (readC [l]) := by rw [← hA]; exact (by simp [hz_a1])
  have hd_a2 : a2.defers = [] := by rw [← hA]; simp only [defers_put, hd_a1]
  clear hA
  by_cases hz : readC [l] = 0
  · obtain ⟨b, M, hr, m, rfl, ht, hf, har, hgd, hno⟩ := hok hz
    have hfl : [l].flatMap goods = goods l := by simp
    rw [hfl] at ht
    have hh := head_b (hgd _ (find_mem hf).1) (find_mem hf).2
    have hrm : readM l = some (headOf hr, m) := by simp [readM, hz, ht, hf]
    refine wpIn_seq (wpIn_seq (region_p 2 ?_))
    intro K hK
    refine ListK.move (i := 0) (v := .int .i64 (readC [l])) rfl (by simp [v5]) ?_
    refine ListK.bin (i := 1) (u := .int .i64 (readC [l])) (u' := .int .i64 0) (v := .bool false) rfl (by simp [hz_a2]) (by simp) (neq27F hz _) ?_
    refine ListK.done (hK _ _ ?_)
    clear hK K
    refine wpIn_cond (t := false) (by simp [hz_a2]) (wpIn_skip ?_)
    generalize hA : Act.put _ _ _ = a3
    have hz_a3 : a3.tmps.size = 25 := by rw [← hA]; simp only [size_put, hz_a2]
    have q4 : a3.eval (.tmp 4) = .pointer (some ⟨b, 0, none⟩) := by rw [← hA]; exact (by simp [v4])
    have hd_a3 : a3.defers = [] := by rw [← hA]; simp only [defers_put, hd_a2]
    clear hA
    refine wpIn_seq (region_p 7 ?_)
    intro K hK
    refine ListK.move (i := 0) (v := .pointer (some ⟨b, 0, none⟩)) rfl (by simp [q4]) ?_
    refine ListK.call (i := 1) (vs := #[.pointer (some ⟨b, 0, none⟩)]) rfl (enters_of Try.func81 (by kernel_rfl) rfl) (by simp [hz_a3]) ((mend_any hh W2 har).mono ?_)
    rintro _ W3 ⟨g, f, rfl, hrow, hvals, hb3⟩
    refine ⟨_, rfl, ?_⟩
    refine ListK.move (i := 2) (v := .tuple #[.slice (some ⟨g, 0, none⟩) (headOf hr).many (headOf hr).many, .bool (goB (headOf hr) m (headOf hr).many 0 0 0)]) rfl (by simp [hz_a3]) ?_
    refine ListK.extract (i := 3) (u := .tuple #[.slice (some ⟨g, 0, none⟩) (headOf hr).many (headOf hr).many, .bool (goB (headOf hr) m (headOf hr).many 0 0 0)]) (v := .slice (some ⟨g, 0, none⟩) (headOf hr).many (headOf hr).many) rfl (by simp [hz_a3]) (ex0 _ _ _) ?_
    refine ListK.extract (i := 4) (u := .tuple #[.slice (some ⟨g, 0, none⟩) (headOf hr).many (headOf hr).many, .bool (goB (headOf hr) m (headOf hr).many 0 0 0)]) (v := .bool (goB (headOf hr) m (headOf hr).many 0 0 0)) rfl (by simp [hz_a3]) (ex1 _ _ _) ?_
    refine ListK.assign (i := 5) (v := .slice (some ⟨g, 0, none⟩) (headOf hr).many (headOf hr).many) rfl (by simp [hz_a3]) ?_
    refine ListK.assign (i := 6) (v := .bool (goB (headOf hr) m (headOf hr).many 0 0 0)) rfl (by simp [hz_a3]) ?_
    refine ListK.done (hK _ _ ?_)
    clear hK K
    have hB3 := hB2.trans (hb3.mono hB2.size)
    generalize hA : Act.put _ _ _ = a4
    have hz_a4 : a4.tmps.size = 25 := by rw [← hA]; simp only [size_put, hz_a3]
    have r6 : a4.eval (.tmp 6) = .slice (some ⟨g, 0, none⟩) (headOf hr).many (headOf hr).many := by rw [← hA]; exact (by simp [hz_a3])
    have r7 : a4.eval (.tmp 7) = .bool (goB (headOf hr) m (headOf hr).many 0 0 0) := by rw [← hA]; exact (by simp [hz_a3])
    have hd_a4 : a4.defers = [] := by rw [← hA]; simp only [defers_put, hd_a3]
    clear hA
    cases hgo : goB (headOf hr) m (headOf hr).many 0 0 0 with
    | false =>
      rw [hgo] at r7
      have hmc : mendC l = 9 := by simp [mendC, hrm, hgo]
      refine wpIn_seq (wpIn_seq (region_p 2 ?_))
      intro K hK
      refine ListK.move (i := 0) (v := .bool false) rfl (by simp [r7]) ?_
      refine ListK.un (i := 1) (u := .bool false) (v := .bool true) rfl (by simp [hz_a4]) (not4 _ _) ?_
      refine ListK.done (hK _ _ ?_)
      clear hK K
      refine wpIn_cond (t := true) (by simp [hz_a4]) ?_
      refine wpIn_seq (region_p 2 ?_)
      intro K hK
      refine ListK.assign (i := 0) (v := .slice none 0 0) rfl (by simp) ?_
      refine ListK.assign (i := 1) (v := .int .i64 9) rfl (by simp) ?_
      refine ListK.done (hK _ _ (wpIn_ret ?_))
      refine bodyPost_ret (v := .tuple #[.slice none 0 0, .int .i64 9]) (res2n Try.results55 (by simp [hz_a4]) (by simp [hz_a4])) (by simp only [defers_put, hd_a4]) ⟨hB3, none, 0, 0, by rw [hmc], fun _ => ⟨rfl, rfl, rfl⟩, fun h => by omega⟩
    | true =>
      rw [hgo] at r7
      have hmc : mendC l = 0 := by simp [mendC, hrm, hgo]
      refine wpIn_seq (wpIn_seq (region_p 2 ?_))
      intro K hK
      refine ListK.move (i := 0) (v := .bool true) rfl (by simp [r7]) ?_
      refine ListK.un (i := 1) (u := .bool true) (v := .bool false) rfl (by simp [hz_a4]) (not4 _ _) ?_
      refine ListK.done (hK _ _ ?_)
      clear hK K
      refine wpIn_cond (t := false) (by simp [hz_a4]) (wpIn_skip ?_)
      refine wpIn_seq (region_p 3 ?_)
      intro K hK
      refine ListK.move (i := 0) (v := .slice (some ⟨g, 0, none⟩) (headOf hr).many (headOf hr).many) rfl (by simp [r6]) ?_
      refine ListK.assign (i := 1) (v := .slice (some ⟨g, 0, none⟩) (headOf hr).many (headOf hr).many) rfl (by simp [hz_a4]) ?_
      refine ListK.assign (i := 2) (v := .int .i64 0) rfl (by simp) ?_
      refine ListK.done (hK _ _ (wpIn_ret ?_))
      refine bodyPost_ret (v := .tuple #[.slice (some ⟨g, 0, none⟩) (headOf hr).many (headOf hr).many, .int .i64 0]) (res2n Try.results55 (by simp [hz_a4]) (by simp [hz_a4])) (by simp only [defers_put, hd_a4]) ⟨hB3, _, _, _, by rw [hmc], fun h => absurd hmc h, fun _ => ⟨headOf hr, m, g, f, hrm, hgd, hh, rfl, rfl, rfl, hrow, hvals hgo⟩⟩
  · have hmc : mendC l = readC [l] := by simp [mendC, readM, hz]
    refine wpIn_seq (wpIn_seq (region_p 2 ?_))
    intro K hK
    refine ListK.move (i := 0) (v := .int .i64 (readC [l])) rfl (by simp [v5]) ?_
    refine ListK.bin (i := 1) (u := .int .i64 (readC [l])) (u' := .int .i64 0) (v := .bool true) rfl (by simp [hz_a2]) (by simp) (neq27T hz _) ?_
    refine ListK.done (hK _ _ ?_)
    clear hK K
    refine wpIn_cond (t := true) (by simp [hz_a2]) ?_
    refine wpIn_seq (region_p 3 ?_)
    intro K hK
    refine ListK.move (i := 0) (v := .int .i64 (readC [l])) rfl (by simp [v5]) ?_
    refine ListK.assign (i := 1) (v := .slice none 0 0) rfl (by simp) ?_
    refine ListK.assign (i := 2) (v := .int .i64 (readC [l])) rfl (by simp [hz_a2]) ?_
    refine ListK.done (hK _ _ (wpIn_ret ?_))
    refine bodyPost_ret (v := .tuple #[.slice none 0 0, .int .i64 (readC [l])]) (res2n Try.results55 (by simp [hz_a2]) (by simp [hz_a2])) (by simp only [defers_put, hd_a2]) ⟨hB2, none, 0, 0, by rw [hmc], fun _ => ⟨rfl, rfl, rfl⟩, fun h => by omega⟩
noncomputable def opsMn0 : Array Oper := (Try.f25.body.bind (regionOf 0)).getD #[]
noncomputable def opsMn1 : Array Oper := (Try.f25.body.bind (regionOf 1)).getD #[]
noncomputable def code25 : Code := (.seq (.region 0 opsMn0 false) (.seq (.region 1 opsMn1 false) .ret))
theorem body25 : Try.f25.body = some code25 := by kernel_rfl
theorem mendX_any (A : Option Addr) (l : List UInt8) (c : Nat) (W : World) (hc : l.length ≤ c) (hl : l.length ≤ 100000) (hs : BytesAt W W.heap.size A l) : Calls Try.prog 25 #[.slice A l.length c] W (MendP W l) := by
  refine (callsIn_wide (n := 5)).1 (callsIn_of_wp Try.func25 body25 trivial ?_ rfl)
  obtain ⟨a, ha⟩ : ∃ a : Act, a = { tmps := #[.slice A l.length c] ++ Array.replicate (Try.f25.ntmps - (#[.slice A l.length c] : Array Value).size) undef, defers := [] } := ⟨_, rfl⟩
  have hsz : a.tmps.size = 8 := by rw [ha]; simp [Try.ntmps25]
  have t0 : a.eval (.tmp 0) = .slice A l.length c := by rw [ha]; simp [Act.eval]
  have hd_a : a.defers = [] := by rw [ha]
  rw [← ha]
  clear ha
  unfold code25
  refine wpIn_seq (region_p 2 ?_)
  intro K hK
  refine ListK.assign (i := 0) (v := .slice none 0 0) rfl (by simp) ?_
  refine ListK.assign (i := 1) (v := .int .i64 0) rfl (by simp) ?_
  refine ListK.done (hK _ _ ?_)
  clear hK K
  generalize hA : Act.put _ _ _ = a1
  have hz_a1 : a1.tmps.size = 8 := by rw [← hA]; simp only [size_put, hsz]
  have u0 : a1.eval (.tmp 0) = .slice A l.length c := by rw [← hA]; exact (by simp [t0])
  have hd_a1 : a1.defers = [] := by rw [← hA]; simp only [defers_put, hd_a]
  clear hA
  refine wpIn_seq (region_p 6 ?_)
  intro K hK
  refine ListK.move (i := 0) (v := .slice A l.length c) rfl (by simp [u0]) ?_
  refine ListK.call (i := 1) (vs := #[.slice A l.length c]) rfl (enters_of Try.func55 (by kernel_rfl) rfl) (by simp [hz_a1]) ((mended_any A l c W hc hl hs).mono ?_)
  rintro e W2 hmp
  obtain ⟨hb2, A2, n2, c2, rfl, h1, h2⟩ := hmp
  refine ⟨_, rfl, ?_⟩
  refine ListK.extract (i := 2) (u := .tuple #[.slice A2 n2 c2, .int .i64 (mendC l)]) (v := .slice A2 n2 c2) rfl (by simp [hz_a1]) (ex0 _ _ _) ?_
  refine ListK.extract (i := 3) (u := .tuple #[.slice A2 n2 c2, .int .i64 (mendC l)]) (v := .int .i64 (mendC l)) rfl (by simp [hz_a1]) (ex1 _ _ _) ?_
  refine ListK.assign (i := 4) (v := .slice A2 n2 c2) rfl (by simp [hz_a1]) ?_
  refine ListK.assign (i := 5) (v := .int .i64 (mendC l)) rfl (by simp [hz_a1]) ?_
  refine ListK.done (hK _ _ (wpIn_ret ?_))
  exact bodyPost_ret (v := .tuple #[.slice A2 n2 c2, .int .i64 (mendC l)]) (res2n Try.results25 (by simp [hz_a1]) (by simp [hz_a1])) (by simp only [defers_put, hd_a1]) ⟨hb2, A2, n2, c2, rfl, h1, h2⟩
end Go.Proofs.YtmdlmmfbcnkanaaR
namespace Go.Proofs.YtmdlmmfbcnkanaaR
open Go.RowKit Go.Shelf
/-- The first reading that is not known. -/
def gapAt (h : Head) (m : List (List UInt8)) : Option Nat := (List.range h.many).find? fun i => decide (loAt h m i < hiAt h m i)
def gapC (l : List UInt8) : Int × Int := if mendC l = 0 then match readM l with
  | some (h, m) => match gapAt h m with
    | some i => ((i : Int), 0)
    | none => (0, 7)
  | none => (0, 0)
  else (0, mendC l)
theorem find_range {n k : Nat} {p : Nat → Bool} (hk : k < n) (hno : ∀ j, j < k → p j = false) (hp : p k = true) : (List.range n).find? p = some k := by
  rw [List.find?_range_eq_some]
  exact ⟨hp, List.mem_range.2 hk, fun j hj => by simp [hno j hj]⟩
theorem find_range_none {n : Nat} {p : Nat → Bool} (hno : ∀ j, j < n → p j = false) : (List.range n).find? p = none := by
  rw [List.find?_eq_none]
  intro j hj
  simp [hno j (List.mem_range.1 hj)]
noncomputable def opsGp0 : Array Oper := (Try.f30.body.bind (regionOf 0)).getD #[]
noncomputable def opsGp1 : Array Oper := (Try.f30.body.bind (regionOf 1)).getD #[]
noncomputable def opsGp2 : Array Oper := (Try.f30.body.bind (regionOf 2)).getD #[]
noncomputable def opsGp3 : Array Oper := (Try.f30.body.bind (regionOf 3)).getD #[]
noncomputable def opsGp4 : Array Oper := (Try.f30.body.bind (regionOf 4)).getD #[]
noncomputable def opsGp5 : Array Oper := (Try.f30.body.bind (regionOf 5)).getD #[]
noncomputable def opsGp6 : Array Oper := (Try.f30.body.bind (regionOf 6)).getD #[]
noncomputable def opsGp7 : Array Oper := (Try.f30.body.bind (regionOf 7)).getD #[]
noncomputable def opsGp8 : Array Oper := (Try.f30.body.bind (regionOf 8)).getD #[]
noncomputable def opsGp9 : Array Oper := (Try.f30.body.bind (regionOf 9)).getD #[]
noncomputable def opsGp10 : Array Oper := (Try.f30.body.bind (regionOf 10)).getD #[]
noncomputable def opsGp11 : Array Oper := (Try.f30.body.bind (regionOf 11)).getD #[]
noncomputable def opsGp12 : Array Oper := (Try.f30.body.bind (regionOf 12)).getD #[]
noncomputable def opsGp13 : Array Oper := (Try.f30.body.bind (regionOf 13)).getD #[]
noncomputable def gp_l : Code := (.seq (.region 6 opsGp6 false) (.seq (.cond (.tmp 19) .skip (.exit 0)) (.seq (.block 1 (.seq (.region 7 opsGp7 false) (.seq (.region 8 opsGp8 true) (.cond (.tmp 31) (.seq (.region 9 opsGp9 false) (.exit 0)) .skip)))) (.region 10 opsGp10 false))))
noncomputable def gp_b : Code := (.seq (.seq (.region 11 opsGp11 false) (.cond (.tmp 35) (.seq (.region 12 opsGp12 false) .ret) .skip)) (.seq (.region 13 opsGp13 false) .ret))
noncomputable def code30 : Code := (.seq (.region 0 opsGp0 false) (.scope (.seq (.region 1 opsGp1 false) (.seq (.seq (.region 2 opsGp2 false) (.cond (.tmp 14) (.seq (.region 3 opsGp3 false) .ret) .skip)) (.seq (.region 4 opsGp4 false) (.seq (.label 0) (.seq (.seq (.region 5 opsGp5 false) (.block 0 (.loop gp_l))) gp_b)))))))
theorem body30 : Try.f30.body = some code30 := by kernel_rfl
section
attribute [local irreducible] AnyK StepK
set_option maxHeartbeats 400000 in
theorem gap_any (A : Option Addr) (l : List UInt8) (c : Nat) (W : World) (hc : l.length ≤ c) (hl : l.length ≤ 100000) (hs : BytesAt W W.heap.size A l) :
    Calls Try.prog 30 #[.slice A l.length c] W (EvP W (.tuple #[.int .i64 (gapC l).1, .int .i64 (gapC l).2])) := by
  refine (callsIn_wide (n := 5)).1 (callsIn_of_wp Try.func30 body30 trivial ?_ rfl)
  obtain ⟨a, ha⟩ : ∃ a : Act, a = { tmps := #[.slice A l.length c] ++ Array.replicate (Try.f30.ntmps - (#[.slice A l.length c] : Array Value).size) undef, defers := [] } := ⟨_, rfl⟩
  have hsz : a.tmps.size = 37 := by rw [ha]; simp [Try.ntmps30]
  have t0 : a.eval (.tmp 0) = .slice A l.length c := by rw [ha]; simp [Act.eval]
  have hd_a : a.defers = [] := by rw [ha]
  rw [← ha]
  clear ha
  unfold code30
  refine wpIn_seq (region_p 2 ?_)
  intro K hK
  refine ListK.assign (i := 0) (v := .int .i64 0) rfl (by simp) ?_
  refine ListK.assign (i := 1) (v := .int .i64 0) rfl (by simp) ?_
  refine ListK.done (hK _ _ ?_)
  clear hK K
  generalize hA : Act.put _ _ _ = a1
  have hz_a1 : a1.tmps.size = 37 := by rw [← hA]; simp only [size_put, hsz]
  have u0 : a1.eval (.tmp 0) = .slice A l.length c := by rw [← hA]; exact (by simp [t0])
  have hd_a1 : a1.defers = [] := by rw [← hA]; simp only [defers_put, hd_a]
  clear hA
  refine wpIn_wide.2 (wp_scope_straight ((wpIn_wide (n := 5)).1 ?_))
  refine wpIn_seq (region_p 7 ?_)
  intro K hK
  refine ListK.move (i := 0) (v := .slice A l.length c) rfl (by simp [u0]) ?_
  refine ListK.call (i := 1) (vs := #[.slice A l.length c]) rfl (enters_of Try.func55 (by kernel_rfl) rfl) (by simp [hz_a1]) ((mended_any A l c W hc hl hs).mono ?_)
  rintro e W2 hmp
  obtain ⟨hb2, A2, n2, c2, rfl, h1, h2⟩ := hmp
  refine ⟨_, rfl, ?_⟩
  refine ListK.move (i := 2) (v := .tuple #[.slice A2 n2 c2, .int .i64 (mendC l)]) rfl (by simp [hz_a1]) ?_
  refine ListK.extract (i := 3) (u := .tuple #[.slice A2 n2 c2, .int .i64 (mendC l)]) (v := .slice A2 n2 c2) rfl (by simp [hz_a1]) (ex0 _ _ _) ?_
  refine ListK.extract (i := 4) (u := .tuple #[.slice A2 n2 c2, .int .i64 (mendC l)]) (v := .int .i64 (mendC l)) rfl (by simp [hz_a1]) (ex1 _ _ _) ?_
  refine ListK.assign (i := 5) (v := .slice A2 n2 c2) rfl (by simp [hz_a1]) ?_
  refine ListK.assign (i := 6) (v := .int .i64 (mendC l)) rfl (by simp [hz_a1]) ?_
  refine ListK.done (hK _ _ ?_)
  clear hK K
  generalize hA : Act.put _ _ _ = a2
  have hz_a2 : a2.tmps.size = 37 := by rw [← hA]; simp only [size_put, hz_a1]
  have v4 : a2.eval (.tmp 4) = .slice A2 n2 c2 := by rw [← hA]; exact (by simp [hz_a1])
  have v5 : a2.eval (.tmp 5) = .int .i64 (mendC l) := by rw [← hA]; exact (by simp [hz_a1])
  have hd_a2 : a2.defers = [] := by rw [← hA]; simp only [defers_put, hd_a1]
  clear hA
  by_cases hz : mendC l = 0
  · obtain ⟨h, m, g, f, hrm, hgd, hh, rfl, rfl, rfl, hrow, hv⟩ := h2 hz
    have hm := hh.many
    refine wpIn_seq (wpIn_seq (region_p 2 ?_))
    intro K hK
    refine ListK.move (i := 0) (v := .int .i64 (mendC l)) rfl (by simp [v5]) ?_
    refine ListK.bin (i := 1) (u := .int .i64 (mendC l)) (u' := .int .i64 0) (v := .bool false) rfl (by simp [hz_a2]) (by simp) (neq27F hz _) ?_
    refine ListK.done (hK _ _ ?_)
    clear hK K
    refine wpIn_cond (t := false) (by simp [hz_a2]) (wpIn_skip ?_)
    generalize hA : Act.put _ _ _ = a3
    have hz_a3 : a3.tmps.size = 37 := by rw [← hA]; simp only [size_put, hz_a2]
    have q4 : a3.eval (.tmp 4) = .slice (some ⟨g, 0, none⟩) h.many h.many := by rw [← hA]; exact (by simp [v4])
    have hd_a3 : a3.defers = [] := by rw [← hA]; simp only [defers_put, hd_a2]
    clear hA
    refine wpIn_seq (region_p 1 ?_)
    intro K hK
    refine ListK.assign (i := 0) (v := .int .i64 (-1)) rfl (by simp) ?_
    refine ListK.done (hK _ _ ?_)
    clear hK K
    refine wpIn_seq (wpIn_label ?_)
    generalize hA : Act.put _ _ _ = a4
    have hz_a4 : a4.tmps.size = 37 := by rw [← hA]; simp only [size_put, hz_a3]
    have r4 : a4.eval (.tmp 4) = .slice (some ⟨g, 0, none⟩) h.many h.many := by rw [← hA]; exact (by simp [q4])
    have r6 : a4.eval (.tmp 6) = .int .i64 (-1) := by rw [← hA]; exact (by simp [hz_a3])
    have hd_a4 : a4.defers = [] := by rw [← hA]; simp only [defers_put, hd_a3]
    clear hA
    refine wpIn_seq (wpIn_seq (region_p 3 ?_))
    intro K hK
    refine ListK.move (i := 0) (v := .slice (some ⟨g, 0, none⟩) h.many h.many) rfl (by simp [r4]) ?_
    refine ListK.len (i := 1) (u := .slice (some ⟨g, 0, none⟩) h.many h.many) (v := .int .i64 h.many) rfl (by simp [hz_a4]) (ln40 _ _ _ _ _) rfl ?_
    refine ListK.move (i := 2) (v := .int .i64 0) rfl (by simp) ?_
    refine ListK.done (hK _ _ ?_)
    clear hK K
    generalize hA : Act.put _ _ _ = a5
    have hz_a5 : a5.tmps.size = 37 := by rw [← hA]; simp only [size_put, hz_a4]
    have p4 : a5.eval (.tmp 4) = .slice (some ⟨g, 0, none⟩) h.many h.many := by rw [← hA]; exact (by simp [r4])
    have p6 : a5.eval (.tmp 6) = .int .i64 (-1) := by rw [← hA]; exact (by simp [r6])
    have p17 : a5.eval (.tmp 17) = .int .i64 h.many := by rw [← hA]; exact (by simp [hz_a4])
    have p18 : a5.eval (.tmp 18) = .int .i64 0 := by rw [← hA]; exact (by simp [hz_a4])
    have hd_a5 : a5.defers = [] := by rw [← hA]; simp only [defers_put, hd_a4]
    clear hA
    have hgc : gapC l = match gapAt h m with
      | some i => ((i : Int), 0)
      | none => (0, 7) := by simp only [gapC, hz, if_true, hrm]
    refine wpIn_block (wpIn_loop (fun a W' => ∃ k : Nat, Below W2.heap.size W2 W' ∧ k ≤ h.many ∧ (∀ j, j < k → decide (loAt h m j < hiAt h m j) = false) ∧ a.tmps.size = 37 ∧ a.defers = [] ∧ a.eval (.tmp 4) = .slice (some ⟨g, 0, none⟩) h.many h.many ∧ a.eval (.tmp 6) = .int .i64 (-1) ∧ a.eval (.tmp 17) = .int .i64 (h.many : Int) ∧ a.eval (.tmp 18) = .int .i64 (k : Int)) (fun a _ => h.many - (intOf (a.eval (.tmp 18))).toNat)
      ⟨0, Below.refl _ _, Nat.zero_le _, fun j hj => absurd hj (Nat.not_lt_zero _), hz_a5, hd_a5, p4, p6, p17, p18⟩ ?_)
    rintro b1 W3 ⟨k, hb3, hk, hno, hz_b1, hd_b1, s4, s6, s17, s18⟩
    unfold gp_l
    by_cases hlt : k < h.many
    · have hd : decide ((k : Int) < (h.many : Int)) = true := by simp; omega
      refine wpIn_seq (region_p 1 ?_)
      intro K hK
      refine ListK.bin (i := 0) (u := .int .i64 (k : Int)) (u' := .int .i64 (h.many : Int)) (v := .bool (decide ((k : Int) < (h.many : Int)))) rfl (by simp [s18]) (by simp [s17]) (lss3 _) ?_
      refine ListK.done (hK _ _ ?_)
      clear hK K
      rw [hd]
      refine wpIn_seq (wpIn_cond (t := true) (by simp [hz_b1]) (wpIn_skip ?_))
      generalize hA : Act.put _ _ _ = b2
      have hz_b2 : b2.tmps.size = 37 := by rw [← hA]; simp only [size_put, hz_b1]
      have o4 : b2.eval (.tmp 4) = .slice (some ⟨g, 0, none⟩) h.many h.many := by rw [← hA]; exact (by simp [s4])
      have o6 : b2.eval (.tmp 6) = .int .i64 (-1) := by rw [← hA]; exact (by simp [s6])
      have o17 : b2.eval (.tmp 17) = .int .i64 (h.many : Int) := by rw [← hA]; exact (by simp [s17])
      have o18 : b2.eval (.tmp 18) = .int .i64 (k : Int) := by rw [← hA]; exact (by simp [s18])
      have hd_b2 : b2.defers = [] := by rw [← hA]; simp only [defers_put, hd_b1]
      clear hA
      refine wpIn_seq (wpIn_block ?_)
      refine wpIn_seq (region_p 2 ?_)
      intro K hK
      refine ListK.move (i := 0) (v := .int .i64 (k : Int)) rfl (by simp [o18]) ?_
      refine ListK.assign (i := 1) (v := .int .i64 (k : Int)) rfl (by simp [hz_b2]) ?_
      refine ListK.done (hK _ _ ?_)
      clear hK K
      generalize hA : Act.put _ _ _ = b3
      have hz_b3 : b3.tmps.size = 37 := by rw [← hA]; simp only [size_put, hz_b2]
      have t4 : b3.eval (.tmp 4) = .slice (some ⟨g, 0, none⟩) h.many h.many := by rw [← hA]; exact (by simp [o4])
      have t6 : b3.eval (.tmp 6) = .int .i64 (-1) := by rw [← hA]; exact (by simp [o6])
      have t7 : b3.eval (.tmp 7) = .int .i64 (k : Int) := by rw [← hA]; exact (by simp [hz_b2])
      have t17 : b3.eval (.tmp 17) = .int .i64 (h.many : Int) := by rw [← hA]; exact (by simp [o17])
      have t18 : b3.eval (.tmp 18) = .int .i64 (k : Int) := by rw [← hA]; exact (by simp [o18])
      have hd_b3 : b3.defers = [] := by rw [← hA]; simp only [defers_put, hd_b2]
      clear hA
      have hrow3 := hrow.below hb3
      have hbd := (Below.refl W3.heap.size W3).drew
      refine wpIn_seq (region_K (KpR (fun w : World => w.cell? ⟨g, k * 2, none⟩ = some (.int .i64 (f (k * 2))) ∧ w.cell? ⟨g, k * 2 + 1, none⟩ = some (.int .i64 (f (k * 2 + 1)))) (fun _ => false)) (wideF_plain _) (by kernel_rfl) Try.mixed ?_)
      change AnyK _ _ _ _ 11 (Array.replicate 11 false) _ _
      have hR : (fun w : World => w.cell? ⟨g, k * 2, none⟩ = some (.int .i64 (f (k * 2))) ∧ w.cell? ⟨g, k * 2 + 1, none⟩ = some (.int .i64 (f (k * 2 + 1)))) W3.drew := ⟨(hrow3 (k * 2) (by omega)).1, (hrow3 (k * 2 + 1) (by omega)).1⟩
      refine AnyK.move (i := 0) may_o (v := .slice (some ⟨g, 0, none⟩) h.many h.many) (by simp [t4]) hR ?_
      refine AnyK.move (i := 1) may_o (v := .int .i64 (k : Int)) (by simp [t7]) hR ?_
      refine AnyK.index (i := 2) may_o (u := .slice (some ⟨g, 0, none⟩) h.many h.many) (u' := .int .i64 (k : Int)) (v := .pointer (some ⟨g, k * 2, none⟩)) (by simp [hz_b3]) (by simp [hz_b3]) (fun w => by have := ix40 (b := g) (o := 0) (c := h.many) hlt w; rwa [Nat.zero_add] at this) hR ?_
      refine AnyK.field (i := 3) may_o (u := .pointer (some ⟨g, k * 2, none⟩)) (v := .pointer (some ⟨g, k * 2, none⟩)) (by simp [hz_b3]) (fun w => fa45_0 w) hR ?_
      refine AnyK.load (i := 4) may_o (p := ⟨g, k * 2, none⟩) (v := .int .i64 (f (k * 2))) (by simp [hz_b3]) (fun w hw => ld3 hw.1) hR ?_
      refine AnyK.move (i := 5) may_o (v := .slice (some ⟨g, 0, none⟩) h.many h.many) (by simp [t4]) hR ?_
      refine AnyK.move (i := 6) may_o (v := .int .i64 (k : Int)) (by simp [t7]) hR ?_
      refine AnyK.index (i := 7) may_o (u := .slice (some ⟨g, 0, none⟩) h.many h.many) (u' := .int .i64 (k : Int)) (v := .pointer (some ⟨g, k * 2, none⟩)) (by simp [hz_b3]) (by simp [hz_b3]) (fun w => by have := ix40 (b := g) (o := 0) (c := h.many) hlt w; rwa [Nat.zero_add] at this) hR ?_
      refine AnyK.field (i := 8) may_o (u := .pointer (some ⟨g, k * 2, none⟩)) (v := .pointer (some ⟨g, k * 2 + 1, none⟩)) (by simp [hz_b3]) (fun w => fa45_1 w) hR ?_
      refine AnyK.load (i := 9) may_o (p := ⟨g, k * 2 + 1, none⟩) (v := .int .i64 (f (k * 2 + 1))) (by simp [hz_b3]) (fun w hw => ld3 hw.2) hR ?_
      refine AnyK.bin (i := 10) may_o (u := .int .i64 (f (k * 2))) (u' := .int .i64 (f (k * 2 + 1))) (v := .bool (decide (f (k * 2) < f (k * 2 + 1)))) (by simp [hz_b3]) (by simp [hz_b3]) (fun w => lss3 w) hR ?_
      refine AnyK.done (by kernel_rfl) ?_
      rw [(hv k hlt).1, (hv k hlt).2]
      generalize hA : Act.put _ _ _ = b4
      have hz_b4 : b4.tmps.size = 37 := by rw [← hA]; simp only [size_put, hz_b3]
      have x4 : b4.eval (.tmp 4) = .slice (some ⟨g, 0, none⟩) h.many h.many := by rw [← hA]; exact (by simp [t4])
      have x6 : b4.eval (.tmp 6) = .int .i64 (-1) := by rw [← hA]; exact (by simp [t6])
      have x7 : b4.eval (.tmp 7) = .int .i64 (k : Int) := by rw [← hA]; exact (by simp [t7])
      have x17 : b4.eval (.tmp 17) = .int .i64 (h.many : Int) := by rw [← hA]; exact (by simp [t17])
      have x18 : b4.eval (.tmp 18) = .int .i64 (k : Int) := by rw [← hA]; exact (by simp [t18])
      have x31 : b4.eval (.tmp 31) = .bool (decide (loAt h m k < hiAt h m k)) := by rw [← hA]; exact (by simp [hz_b3])
      have hd_b4 : b4.defers = [] := by rw [← hA]; simp only [defers_put, hd_b3]
      clear hA
      cases hlh : decide (loAt h m k < hiAt h m k) with
      | true =>
        rw [hlh] at x31
        refine wpIn_cond (t := true) x31 ?_
        refine wpIn_seq (region_p 2 ?_)
        intro K hK
        refine ListK.move (i := 0) (v := .int .i64 (k : Int)) rfl (by simp [x7]) ?_
        refine ListK.assign (i := 1) (v := .int .i64 (k : Int)) rfl (by simp [hz_b4]) ?_
        refine ListK.done (hK _ _ (wpIn_exit ?_))
        have hga : gapAt h m = some k := find_range hlt hno hlh
        rw [hga] at hgc
        show gp_b.wpIn _ _ _ _ _ _
        unfold gp_b
        generalize hA : Act.put _ _ _ = b5
        have hz_b5 : b5.tmps.size = 37 := by rw [← hA]; simp only [size_put, hz_b4]
        have y6 : b5.eval (.tmp 6) = .int .i64 (k : Int) := by rw [← hA]; exact (by simp [hz_b4])
        have hd_b5 : b5.defers = [] := by rw [← hA]; simp only [defers_put, hd_b4]
        clear hA
        have hd0 : decide ((k : Int) < 0) = false := by simp
        refine wpIn_seq (wpIn_seq (region_p 2 ?_))
        intro K hK
        refine ListK.move (i := 0) (v := .int .i64 (k : Int)) rfl (by simp [y6]) ?_
        refine ListK.bin (i := 1) (u := .int .i64 (k : Int)) (u' := .int .i64 0) (v := .bool (decide ((k : Int) < 0))) rfl (by simp [hz_b5]) (by simp) (lss3 _) ?_
        refine ListK.done (hK _ _ ?_)
        clear hK K
        rw [hd0]
        refine wpIn_cond (t := false) (by simp [hz_b5]) (wpIn_skip ?_)
        refine wpIn_seq (region_p 3 ?_)
        intro K hK
        refine ListK.move (i := 0) (v := .int .i64 (k : Int)) rfl (by simp [y6]) ?_
        refine ListK.assign (i := 1) (v := .int .i64 (k : Int)) rfl (by simp [hz_b5]) ?_
        refine ListK.assign (i := 2) (v := .int .i64 0) rfl (by simp) ?_
        refine ListK.done (hK _ _ (wpIn_ret ?_))
        refine bodyPost_ret (v := .tuple #[.int .i64 (k : Int), .int .i64 0]) (res2n Try.results30 (by simp [hz_b5]) (by simp [hz_b5])) (by simp only [defers_put, hd_b5]) ⟨by rw [hgc], hb2.trans ((hb3.trans (hbd.mono hb3.size)).mono hb2.size)⟩
      | false =>
        rw [hlh] at x31
        refine wpIn_cond (t := false) x31 (wpIn_skip ?_)
        refine region_p 2 ?_
        intro K hK
        refine ListK.bin (i := 0) (u := .int .i64 (k : Int)) (u' := .int .i64 1) (v := .int .i64 ((k + 1 : Nat) : Int)) rfl (by simp [x18]) (by simp) (add3 (by omega) (by omega) _) ?_
        refine ListK.move (i := 1) (v := .int .i64 ((k + 1 : Nat) : Int)) rfl (by simp [hz_b4]) ?_
        refine ListK.done (hK _ _ ?_)
        clear hK K
        refine ⟨⟨k + 1, hb3.trans (hbd.mono hb3.size), by omega, fun j hj => ?_, (by simp only [size_put, hz_b4]), (by simp only [defers_put, hd_b4]), (by simp [x4]), (by simp [x6]), (by simp [x17]), (by simp [hz_b4])⟩, ?_⟩
        · by_cases e : j = k
          · rw [e]
            exact hlh
          · exact hno j (by omega)
        · rw [s18, show (Act.put _ _ _).eval (.tmp 18) = .int .i64 ((k + 1 : Nat) : Int) from (by simp [hz_b4])]
          simp only [intOf]
          omega
    · have hd : decide ((k : Int) < (h.many : Int)) = false := by simp; omega
      refine wpIn_seq (region_p 1 ?_)
      intro K hK
      refine ListK.bin (i := 0) (u := .int .i64 (k : Int)) (u' := .int .i64 (h.many : Int)) (v := .bool (decide ((k : Int) < (h.many : Int)))) rfl (by simp [s18]) (by simp [s17]) (lss3 _) ?_
      refine ListK.done (hK _ _ ?_)
      clear hK K
      rw [hd]
      refine wpIn_seq (wpIn_cond (t := false) (by simp [hz_b1]) (wpIn_exit ?_))
      have hga : gapAt h m = none := find_range_none (fun j hj => hno j (by omega))
      rw [hga] at hgc
      show gp_b.wpIn _ _ _ _ _ _
      unfold gp_b
      generalize hA : Act.put _ _ _ = b5
      have hz_b5 : b5.tmps.size = 37 := by rw [← hA]; simp only [size_put, hz_b1]
      have y6 : b5.eval (.tmp 6) = .int .i64 (-1) := by rw [← hA]; exact (by simp [s6])
      have hd_b5 : b5.defers = [] := by rw [← hA]; simp only [defers_put, hd_b1]
      clear hA
      refine wpIn_seq (wpIn_seq (region_p 2 ?_))
      intro K hK
      refine ListK.move (i := 0) (v := .int .i64 (-1)) rfl (by simp [y6]) ?_
      refine ListK.bin (i := 1) (u := .int .i64 (-1)) (u' := .int .i64 0) (v := .bool true) rfl (by simp [hz_b5]) (by simp) (lss3 _) ?_
      refine ListK.done (hK _ _ ?_)
      clear hK K
      refine wpIn_cond (t := true) (by simp [hz_b5]) ?_
      refine wpIn_seq (region_p 2 ?_)
      intro K hK
      refine ListK.assign (i := 0) (v := .int .i64 0) rfl (by simp) ?_
      refine ListK.assign (i := 1) (v := .int .i64 7) rfl (by simp) ?_
      refine ListK.done (hK _ _ (wpIn_ret ?_))
      refine bodyPost_ret (v := .tuple #[.int .i64 0, .int .i64 7]) (res2n Try.results30 (by simp [hz_b5]) (by simp [hz_b5])) (by simp only [defers_put, hd_b5]) ⟨by rw [hgc], hb2.trans (hb3.mono hb2.size)⟩
  · have hgc : gapC l = (0, mendC l) := by simp [gapC, hz]
    refine wpIn_seq (wpIn_seq (region_p 2 ?_))
    intro K hK
    refine ListK.move (i := 0) (v := .int .i64 (mendC l)) rfl (by simp [v5]) ?_
    refine ListK.bin (i := 1) (u := .int .i64 (mendC l)) (u' := .int .i64 0) (v := .bool true) rfl (by simp [hz_a2]) (by simp) (neq27T hz _) ?_
    refine ListK.done (hK _ _ ?_)
    clear hK K
    refine wpIn_cond (t := true) (by simp [hz_a2]) ?_
    refine wpIn_seq (region_p 3 ?_)
    intro K hK
    refine ListK.move (i := 0) (v := .int .i64 (mendC l)) rfl (by simp [v5]) ?_
    refine ListK.assign (i := 1) (v := .int .i64 0) rfl (by simp) ?_
    refine ListK.assign (i := 2) (v := .int .i64 (mendC l)) rfl (by simp [hz_a2]) ?_
    refine ListK.done (hK _ _ (wpIn_ret ?_))
    refine bodyPost_ret (v := .tuple #[.int .i64 0, .int .i64 (mendC l)]) (res2n Try.results30 (by simp [hz_a2]) (by simp [hz_a2])) (by simp only [defers_put, hd_a2]) ⟨by rw [hgc], hb2⟩
end
end Go.Proofs.YtmdlmmfbcnkanaaR
namespace Go.Proofs.YtmdlmmfbcnkanaaR
open Go.RowKit Go.Shelf
abbrev strV (l : List UInt8) : Value := .string ⟨l.toArray⟩
theorem ba_append (a b : List UInt8) : (⟨a.toArray⟩ : ByteArray) ++ ⟨b.toArray⟩ = ⟨(a ++ b).toArray⟩ := by
  apply ByteArray.ext
  simp
theorem add9 {x y : Operand} (a b : List UInt8) (h : a.length + b.length ≤ 1000000) (w : World) : (do eqGuard .add 9 x y (strV a) (strV b); binOp .add 9 (strV a) (strV b) : Sem Value).run Try.prog w = .ok (strV (a ++ b)) w := by
  go_simp
  rw [if_neg (by omega), ba_append]
theorem app9_run (l : List UInt8) (hl : l.length ≤ 100000) (W : World) : ∃ v w', (Builtin.append_ #[31, 9] 31 #[.slice none 0 0, strV l]).run Try.prog W = .ok v w' ∧ OB W v l w' := by
  obtain ⟨i0, hi0, hi1, hi2, hi3⟩ := info_parts Try.info5
  have hsz : (⟨l.toArray⟩ : ByteArray).size = l.length := by simp [ByteArray.size]
  obtain ⟨v, w', h1, h2, h3, h4⟩ := Lib.run_append_own_string (P := Try.prog) W W.heap.size 31 9 31 5 i0 Try.underlying31 (by kernel_rfl) hi0 hi1 hi2 hi3 (.slice none 0 0) 0 [] (World.ownsRow_nil _ _ _ _) ⟨l.toArray⟩ (by rw [hsz]; unfold maxLen; omega) (by rw [hsz]; omega) (Nat.le_refl _)
  refine ⟨v, w', h1, ⟨h3.os, h3.tape, h3.output, h3.size, fun k hk => h3.block k hk (by simp [Value.ownBlock])⟩, ?_⟩
  rw [hsz, Nat.zero_add, List.nil_append] at h2
  exact h2
theorem cv319 {W : World} {B : Nat} {A : Option Addr} {l : List UInt8} (c : Nat) (h : BytesAt W B A l) : (convert 31 9 (.slice A l.length c)).run Try.prog W = .ok (strV l) W := by
  cases A with
  | none =>
    have hl : l = [] := by
      cases l with
      | nil => rfl
      | cons x l =>
        obtain ⟨b, o, h, _⟩ := h 0 x rfl
        cases h
    subst hl
    exact run_convert_bytes_nil (P := Try.prog) W 31 5 Try.underlying31 (by kernel_rfl) _ _ 9 (by kernel_rfl)
  | some p =>
    by_cases hl : l = []
    · subst hl
      kernel_rfl
    · have hpo : ∃ b o, p = ⟨b, o, none⟩ := by
        cases l with
        | nil => exact (hl rfl).elim
        | cons x l =>
          obtain ⟨b, o, h, _⟩ := h 0 x rfl
          cases h
          exact ⟨b, o, rfl⟩
      obtain ⟨b, o, rfl⟩ := hpo
      have hr := run_convert_bytes_arg (P := Try.prog) W 31 5 Try.underlying31 (by kernel_rfl) b o l.length c (l.map fun b => (b.toNat : Int)) (by simp) (fun i hi => by
        obtain ⟨b', o', h, _, h2⟩ := h i l[i] (List.getElem?_eq_getElem hi)
        cases h
        rw [h2]
        simp [u8V, hi]) 9 (by kernel_rfl)
      rw [hr, Lib.Lz.strOfNums_map]
theorem ListK.app9 {ops : Array Oper} {K : Act → World → Prop} {k i d : Nat} {a : Act} {w w' : World} {ty : TypeId} {pos : String} {aft : Array Edge} {s x : Operand} {v v2 v' : Value} (hi : ops[i]? = some ⟨some d, .call { callee := .builtin .append, args := #[s, x], argTypes := #[31, 9] }, ty, pos, aft, none⟩) (hs : a.eval s = v) (hx : a.eval x = v2)
    (hr : (Builtin.append_ #[31, 9] ty #[v, v2]).run Try.prog w = .ok v' w') (h : ListK Try.prog ops K k (i + 1) (a.put (some d) v') w') : ListK Try.prog ops K (k + 1) i a w := by
  refine ListK.val hi rfl ?_ h
  simp [execOp, resolve, invoke, builtin, hs, hx, hr]
/-- Strings at an address. -/
def StrsAt (w : World) (B : Nat) (A : Option Addr) (L : List (List UInt8)) : Prop :=
  ∀ k l, L[k]? = some l → ∃ b off, A = some ⟨b, off, none⟩ ∧ b < B ∧ w.cell? ⟨b, off + k, none⟩ = some (strV l)
theorem StrsAt.below {w w' : World} {B B' : Nat} {A : Option Addr} {L : List (List UInt8)} (h : StrsAt w B A L) (hb : Below B' w w') (hB : B ≤ B') : StrsAt w' B A L := by
  intro k l hk
  obtain ⟨b, off, hA, hlt, hc⟩ := h k l hk
  exact ⟨b, off, hA, hlt, (hb.cell (p := ⟨b, off + k, none⟩) (Nat.lt_of_lt_of_le hlt hB)).trans hc⟩
theorem ix36 {b o n c : Nat} {i : Nat} (h : i < n) (w : World) : (Instr.indexAt 36 (.slice (some ⟨b, o, none⟩) n c) (.int .i64 i)).run Try.prog w = .ok (.pointer (some ⟨b, o + i, none⟩)) w := by go_simp
theorem ld9 {w : World} {p : Addr} {v : Value} (h : w.cell? p = some v) : (Instr.loadAt 9 (.pointer (some p))).run Try.prog w = .ok v w := by go_simp
theorem ln36 (A : Option Addr) (n c : Nat) (t : TypeId) (w : World) : (builtin .len #[36] t #[false] #[.slice A n c]).run Try.prog w = .ok (.value (.int .i64 (n : Int))) w := by go_simp
theorem linesL_next {L : List (List UInt8)} {k : Nat} {l : List UInt8} (h : L[k]? = some l) : linesL (L.take (k + 1)) = linesL (L.take k) ++ (l ++ [10]) := by
  rw [List.take_add_one, h, linesL_app]
  simp [linesL]
theorem linesL_pre (L : List (List UInt8)) (k : Nat) : (linesL (L.take k)).length ≤ (linesL L).length := by
  have h1 : L = L.take k ++ L.drop k := (List.take_append_drop k L).symm
  conv => rhs; rw [h1, linesL_app]
  simp
noncomputable def opsLi0 : Array Oper := (Try.f21.body.bind (regionOf 0)).getD #[]
noncomputable def opsLi1 : Array Oper := (Try.f21.body.bind (regionOf 1)).getD #[]
noncomputable def opsLi2 : Array Oper := (Try.f21.body.bind (regionOf 2)).getD #[]
noncomputable def opsLi3 : Array Oper := (Try.f21.body.bind (regionOf 3)).getD #[]
noncomputable def opsLi4 : Array Oper := (Try.f21.body.bind (regionOf 4)).getD #[]
noncomputable def opsLi5 : Array Oper := (Try.f21.body.bind (regionOf 5)).getD #[]
noncomputable def opsLi6 : Array Oper := (Try.f21.body.bind (regionOf 6)).getD #[]
noncomputable def code21 : Code := (.seq (.region 0 opsLi0 false) (.seq (.region 1 opsLi1 false) (.seq (.seq (.region 2 opsLi2 false) (.block 0 (.loop (.seq (.seq (.region 3 opsLi3 false) (.cond (.tmp 8) .skip (.exit 0))) (.seq (.block 1 (.region 5 opsLi5 false)) (.region 4 opsLi4 false)))))) (.seq (.region 6 opsLi6 false) .ret))))
theorem body21 : Try.f21.body = some code21 := by kernel_rfl
set_option maxHeartbeats 400000 in
theorem refLines_any (A : Option Addr) (c : Nat) (L : List (List UInt8)) (hl : (linesL L).length ≤ 500000) (hn : L.length ≤ 100000) (W : World) (hs : StrsAt W W.heap.size A L) : Calls Try.prog 21 #[.slice A L.length c] W (fun e w' => e = .returned (strV (linesL L)) ∧ w' = W) := by
  refine (callsIn_wide (n := 5)).1 (callsIn_of_wp Try.func21 body21 trivial ?_ rfl)
  obtain ⟨a, ha⟩ : ∃ a : Act, a = { tmps := #[.slice A L.length c] ++ Array.replicate (Try.f21.ntmps - (#[.slice A L.length c] : Array Value).size) undef, defers := [] } := ⟨_, rfl⟩
  have hsz : a.tmps.size = 19 := by rw [ha]; simp [Try.ntmps21]
  have t0 : a.eval (.tmp 0) = .slice A L.length c := by rw [ha]; simp [Act.eval]
  have hd_a : a.defers = [] := by rw [ha]
  rw [← ha]
  clear ha
  unfold code21
  refine wpIn_seq (region_p 1 ?_)
  intro K hK
  refine ListK.assign (i := 0) (v := strV []) rfl (by simp) ?_
  refine ListK.done (hK _ _ ?_)
  clear hK K
  refine wpIn_seq (region_p 1 ?_)
  intro K hK
  refine ListK.assign (i := 0) (v := strV []) rfl (by simp) ?_
  refine ListK.done (hK _ _ ?_)
  clear hK K
  refine wpIn_seq (wpIn_seq (region_p 1 ?_))
  intro K hK
  refine ListK.assign (i := 0) (v := .int .i64 0) rfl (by simp) ?_
  refine ListK.done (hK _ _ ?_)
  clear hK K
  generalize hA : Act.put _ _ _ = a1
  have hz_a1 : a1.tmps.size = 19 := by rw [← hA]; simp only [size_put, hsz]
  have u0 : a1.eval (.tmp 0) = .slice A L.length c := by rw [← hA]; exact (by simp [t0])
  have u3 : a1.eval (.tmp 3) = strV [] := by rw [← hA]; exact (by simp [hsz])
  have u4 : a1.eval (.tmp 4) = .int .i64 0 := by rw [← hA]; exact (by simp [hsz])
  have hd_a1 : a1.defers = [] := by rw [← hA]; simp only [defers_put, hd_a]
  clear hA
  refine wpIn_block (wpIn_loop (fun a W' => ∃ k : Nat, W' = W ∧ k ≤ L.length ∧ a.tmps.size = 19 ∧ a.defers = [] ∧ a.eval (.tmp 0) = .slice A L.length c ∧ a.eval (.tmp 3) = strV (linesL (L.take k)) ∧ a.eval (.tmp 4) = .int .i64 (k : Int)) (fun a _ => L.length - (intOf (a.eval (.tmp 4))).toNat)
    ⟨0, rfl, Nat.zero_le _, hz_a1, hd_a1, u0, u3, u4⟩ ?_)
  rintro b1 W1 ⟨k, hW1, hk, hz_b1, hd_b1, s0, s3, s4⟩
  subst hW1
  by_cases hlt : k < L.length
  · have hd : decide ((k : Int) < (L.length : Int)) = true := by simp; omega
    refine wpIn_seq (wpIn_seq (region_p 4 ?_))
    intro K hK
    refine ListK.move (i := 0) (v := .int .i64 (k : Int)) rfl (by simp [s4]) ?_
    refine ListK.move (i := 1) (v := .slice A L.length c) rfl (by simp [s0]) ?_
    refine ListK.len (i := 2) (u := .slice A L.length c) (v := .int .i64 L.length) rfl (by simp [hz_b1]) (ln36 _ _ _ _ _) rfl ?_
    refine ListK.bin (i := 3) (u := .int .i64 (k : Int)) (u' := .int .i64 L.length) (v := .bool (decide ((k : Int) < (L.length : Int)))) rfl (by simp [hz_b1]) (by simp [hz_b1]) (lss3 _) ?_
    refine ListK.done (hK _ _ ?_)
    clear hK K
    rw [hd]
    refine wpIn_cond (t := true) (by simp [hz_b1]) (wpIn_skip ?_)
    generalize hA : Act.put _ _ _ = b2
    have hz_b2 : b2.tmps.size = 19 := by rw [← hA]; simp only [size_put, hz_b1]
    have v0 : b2.eval (.tmp 0) = .slice A L.length c := by rw [← hA]; exact (by simp [s0])
    have v3 : b2.eval (.tmp 3) = strV (linesL (L.take k)) := by rw [← hA]; exact (by simp [s3])
    have v4 : b2.eval (.tmp 4) = .int .i64 (k : Int) := by rw [← hA]; exact (by simp [s4])
    have hd_b2 : b2.defers = [] := by rw [← hA]; simp only [defers_put, hd_b1]
    clear hA
    have hlk := List.getElem?_eq_getElem hlt
    obtain ⟨lv, hlv⟩ : ∃ lv, lv = L[k] := ⟨_, rfl⟩
    rw [← hlv] at hlk
    obtain ⟨b, off, rfl, hbB, hcell⟩ := hs k lv hlk
    have hnx := linesL_next hlk
    have hp1 := linesL_pre L (k + 1)
    have hlen : (linesL (L.take k)).length + (lv ++ [10]).length ≤ 500000 := by rw [← List.length_append, ← hnx]; omega
    refine wpIn_seq (wpIn_block ?_)
    refine region_p 8 ?_
    intro K hK
    refine ListK.move (i := 0) (v := strV (linesL (L.take k))) rfl (by simp [v3]) ?_
    refine ListK.move (i := 1) (v := .slice (some ⟨b, off, none⟩) L.length c) rfl (by simp [v0]) ?_
    refine ListK.move (i := 2) (v := .int .i64 (k : Int)) rfl (by simp [v4]) ?_
    refine ListK.index (i := 3) (u := .slice (some ⟨b, off, none⟩) L.length c) (u' := .int .i64 (k : Int)) (v := .pointer (some ⟨b, off + k, none⟩)) rfl (by simp [hz_b2]) (by simp [hz_b2]) (ix36 hlt _) ?_
    refine ListK.load (i := 4) (p := ⟨b, off + k, none⟩) (v := strV lv) rfl (by simp [hz_b2]) (ld9 (hcell)) ?_
    refine ListK.bin (i := 5) (u := strV lv) (u' := strV [10]) (v := strV (lv ++ [10])) rfl (by simp [hz_b2]) (by simp) (add9 _ _ (by simp at hlen ⊢; omega) _) ?_
    refine ListK.bin (i := 6) (u := strV (linesL (L.take k))) (u' := strV (lv ++ [10])) (v := strV (linesL (L.take (k + 1)))) rfl (by simp [hz_b2]) (by simp [hz_b2]) (by rw [hnx]; exact add9 _ _ (by omega) _) ?_
    refine ListK.assign (i := 7) (v := strV (linesL (L.take (k + 1)))) rfl (by simp [hz_b2]) ?_
    refine ListK.done (hK _ _ ?_)
    clear hK K
    generalize hA : Act.put _ _ _ = b3
    have hz_b3 : b3.tmps.size = 19 := by rw [← hA]; simp only [size_put, hz_b2]
    have q0 : b3.eval (.tmp 0) = .slice (some ⟨b, off, none⟩) L.length c := by rw [← hA]; exact (by simp [v0])
    have q3 : b3.eval (.tmp 3) = strV (linesL (L.take (k + 1))) := by rw [← hA]; exact (by simp [hz_b2])
    have q4 : b3.eval (.tmp 4) = .int .i64 (k : Int) := by rw [← hA]; exact (by simp [v4])
    have hd_b3 : b3.defers = [] := by rw [← hA]; simp only [defers_put, hd_b2]
    clear hA
    refine region_p 3 ?_
    intro K hK
    refine ListK.move (i := 0) (v := .int .i64 (k : Int)) rfl (by simp [q4]) ?_
    refine ListK.bin (i := 1) (u := .int .i64 (k : Int)) (u' := .int .i64 1) (v := .int .i64 ((k + 1 : Nat) : Int)) rfl (by simp [hz_b3]) (by simp) (add3 (by omega) (by omega) _) ?_
    refine ListK.assign (i := 2) (v := .int .i64 ((k + 1 : Nat) : Int)) rfl (by simp [hz_b3]) ?_
    refine ListK.done (hK _ _ ?_)
    clear hK K
    refine ⟨⟨k + 1, rfl, by omega, (by simp only [size_put, hz_b3]), (by simp only [defers_put, hd_b3]), (by simp [q0]), (by simp [q3]), (by simp [hz_b3])⟩, ?_⟩
    rw [s4, show (Act.put _ _ _).eval (.tmp 4) = .int .i64 ((k + 1 : Nat) : Int) from (by simp [hz_b3])]
    simp only [intOf]
    omega
  · have hd : decide ((k : Int) < (L.length : Int)) = false := by simp; omega
    refine wpIn_seq (wpIn_seq (region_p 4 ?_))
    intro K hK
    refine ListK.move (i := 0) (v := .int .i64 (k : Int)) rfl (by simp [s4]) ?_
    refine ListK.move (i := 1) (v := .slice A L.length c) rfl (by simp [s0]) ?_
    refine ListK.len (i := 2) (u := .slice A L.length c) (v := .int .i64 L.length) rfl (by simp [hz_b1]) (ln36 _ _ _ _ _) rfl ?_
    refine ListK.bin (i := 3) (u := .int .i64 (k : Int)) (u' := .int .i64 L.length) (v := .bool (decide ((k : Int) < (L.length : Int)))) rfl (by simp [hz_b1]) (by simp [hz_b1]) (lss3 _) ?_
    refine ListK.done (hK _ _ ?_)
    clear hK K
    rw [hd]
    refine wpIn_cond (t := false) (by simp [hz_b1]) (wpIn_exit ?_)
    have hkL : k = L.length := by omega
    rw [hkL, List.take_length] at s3
    generalize hA : Act.put _ _ _ = b2
    have hz_b2 : b2.tmps.size = 19 := by rw [← hA]; simp only [size_put, hz_b1]
    have v3 : b2.eval (.tmp 3) = strV (linesL L) := by rw [← hA]; exact (by simp [s3])
    have hd_b2 : b2.defers = [] := by rw [← hA]; simp only [defers_put, hd_b1]
    clear hA
    refine wpIn_seq (region_p 2 ?_)
    intro K hK
    refine ListK.move (i := 0) (v := strV (linesL L)) rfl (by simp [v3]) ?_
    refine ListK.assign (i := 1) (v := strV (linesL L)) rfl (by simp [hz_b2]) ?_
    refine ListK.done (hK _ _ (wpIn_ret ?_))
    exact bodyPost_ret (v := strV (linesL L)) (res1 Try.results21 (by simp [hz_b2])) (by simp only [defers_put, hd_b2]) ⟨rfl, rfl⟩
noncomputable def opsBy0 : Array Oper := (Try.f26.body.bind (regionOf 0)).getD #[]
noncomputable def opsBy1 : Array Oper := (Try.f26.body.bind (regionOf 1)).getD #[]
noncomputable def code26 : Code := (.seq (.region 0 opsBy0 false) (.seq (.region 1 opsBy1 false) .ret))
theorem body26 : Try.f26.body = some code26 := by kernel_rfl
theorem bytes_any (l : List UInt8) (hl : l.length ≤ 100000) (W : World) : Calls Try.prog 26 #[strV l] W (fun e w' => ∃ v, e = .returned v ∧ OB W v l w') := by
  obtain ⟨v, W2, hap, hob⟩ := app9_run l hl W
  refine (callsIn_wide (n := 5)).1 (callsIn_of_wp Try.func26 body26 trivial ?_ rfl)
  obtain ⟨a, ha⟩ : ∃ a : Act, a = { tmps := #[strV l] ++ Array.replicate (Try.f26.ntmps - (#[strV l] : Array Value).size) undef, defers := [] } := ⟨_, rfl⟩
  have hsz : a.tmps.size = 5 := by rw [ha]; simp [Try.ntmps26]
  have t0 : a.eval (.tmp 0) = strV l := by rw [ha]; simp [Act.eval]
  have hd_a : a.defers = [] := by rw [ha]
  rw [← ha]
  clear ha
  unfold code26
  refine wpIn_seq (region_p 1 ?_)
  intro K hK
  refine ListK.assign (i := 0) (v := .slice none 0 0) rfl (by simp) ?_
  refine ListK.done (hK _ _ ?_)
  clear hK K
  refine wpIn_seq (region_p 3 ?_)
  intro K hK
  refine ListK.move (i := 0) (v := strV l) rfl (by simp [t0]) ?_
  refine ListK.app9 (i := 1) rfl (by simp) (by simp [hsz]) hap ?_
  refine ListK.assign (i := 2) (v := v) rfl (by simp [hsz]) ?_
  refine ListK.done (hK _ _ (wpIn_ret ?_))
  exact bodyPost_ret (v := v) (res1 Try.results26 (by simp [hsz])) (by simp only [defers_put, hd_a]) ⟨v, rfl, hob⟩
noncomputable def opsLe0 : Array Oper := (Try.f42.body.bind (regionOf 0)).getD #[]
noncomputable def opsLe1 : Array Oper := (Try.f42.body.bind (regionOf 1)).getD #[]
noncomputable def code42 : Code := (.seq (.region 0 opsLe0 false) (.seq (.region 1 opsLe1 false) .ret))
theorem body42 : Try.f42.body = some code42 := by kernel_rfl
theorem left_any (A : Option Addr) (c : Nat) (L : List (List UInt8)) (hl : (linesL L).length ≤ 100000) (hn : L.length ≤ 100000) (W : World) (hs : StrsAt W W.heap.size A L) : Calls Try.prog 42 #[.slice A L.length c] W (fun e w' => ∃ v, e = .returned v ∧ OB W v (linesL L) w') := by
  refine (callsIn_wide (n := 5)).1 (callsIn_of_wp Try.func42 body42 trivial ?_ rfl)
  obtain ⟨a, ha⟩ : ∃ a : Act, a = { tmps := #[.slice A L.length c] ++ Array.replicate (Try.f42.ntmps - (#[.slice A L.length c] : Array Value).size) undef, defers := [] } := ⟨_, rfl⟩
  have hsz : a.tmps.size = 6 := by rw [ha]; simp [Try.ntmps42]
  have t0 : a.eval (.tmp 0) = .slice A L.length c := by rw [ha]; simp [Act.eval]
  have hd_a : a.defers = [] := by rw [ha]
  rw [← ha]
  clear ha
  unfold code42
  refine wpIn_seq (region_p 1 ?_)
  intro K hK
  refine ListK.assign (i := 0) (v := .slice none 0 0) rfl (by simp) ?_
  refine ListK.done (hK _ _ ?_)
  clear hK K
  refine wpIn_seq (region_p 4 ?_)
  intro K hK
  refine ListK.move (i := 0) (v := .slice A L.length c) rfl (by simp [t0]) ?_
  refine ListK.call (i := 1) (vs := #[.slice A L.length c]) rfl (enters_of Try.func21 (by kernel_rfl) rfl) (by simp [hsz]) ((refLines_any A c L (by omega) hn W hs).mono ?_)
  rintro _ _ ⟨rfl, hWe⟩
  subst hWe
  refine ⟨_, rfl, ?_⟩
  refine ListK.call (i := 2) (vs := #[strV (linesL L)]) rfl (enters_of Try.func26 (by kernel_rfl) rfl) (by simp [hsz]) ((bytes_any (linesL L) hl _).mono ?_)
  rintro _ W2 ⟨v, rfl, hob⟩
  refine ⟨_, rfl, ?_⟩
  refine ListK.assign (i := 3) (v := v) rfl (by simp [hsz]) ?_
  refine ListK.done (hK _ _ (wpIn_ret ?_))
  exact bodyPost_ret (v := v) (res1 Try.results42 (by simp [hsz])) (by simp only [defers_put, hd_a]) ⟨v, rfl, hob⟩
end Go.Proofs.YtmdlmmfbcnkanaaR
namespace Go.Proofs.YtmdlmmfbcnkanaaR
open Go.RowKit Go.Shelf
noncomputable def opsMd0 : Array Oper := (Try.f50.body.bind (regionOf 0)).getD #[]
noncomputable def opsMd1 : Array Oper := (Try.f50.body.bind (regionOf 1)).getD #[]
noncomputable def opsMd2 : Array Oper := (Try.f50.body.bind (regionOf 2)).getD #[]
noncomputable def opsMd3 : Array Oper := (Try.f50.body.bind (regionOf 3)).getD #[]
noncomputable def opsMd4 : Array Oper := (Try.f50.body.bind (regionOf 4)).getD #[]
noncomputable def opsMd5 : Array Oper := (Try.f50.body.bind (regionOf 5)).getD #[]
noncomputable def opsMd6 : Array Oper := (Try.f50.body.bind (regionOf 6)).getD #[]
noncomputable def code50 : Code := (.seq (.region 0 opsMd0 false) (.seq (.region 1 opsMd1 false) (.seq (.region 2 opsMd2 false) (.seq (.region 3 opsMd3 false) (.seq (.region 4 opsMd4 false) (.seq (.region 5 opsMd5 false) (.seq (.region 6 opsMd6 false) .ret)))))))
theorem body50 : Try.f50.body = some code50 := by kernel_rfl
theorem made_cells (k : UInt8) (a b : Nat) : recC (made k a b) = #[u8V k, u8V (hi2 a), u8V (lo2 a), u8V (hi2 b), u8V (lo2 b), u8V (hi2 (chk5 k (hi2 a) (lo2 a) (hi2 b) (lo2 b))), u8V (lo2 (chk5 k (hi2 a) (lo2 a) (hi2 b) (lo2 b)))] := rfl
theorem chk5_lt (a b c d e : UInt8) : chk5 a b c d e < 97 := Nat.mod_lt _ (by omega)
set_option maxHeartbeats 4000000 in
theorem made_any (k : UInt8) (a0 b0 : Nat) (W : World) (ha0 : a0 ≤ 99) (hb0 : b0 ≤ 99) :
    Calls Try.prog 50 #[u8V k, .int .i64 (a0 : Int), .int .i64 (b0 : Int)] W (EvP W (.agg (recC (made k a0 b0)))) := by
  have hc := chk5_lt k (hi2 a0) (lo2 a0) (hi2 b0) (lo2 b0)
  rw [made_cells]
  refine (callsIn_wide (n := 5)).1 (callsIn_of_wp Try.func50 body50 trivial ?_ rfl)
  obtain ⟨a, ha⟩ : ∃ a : Act, a = { tmps := #[u8V k, .int .i64 (a0 : Int), .int .i64 (b0 : Int)] ++ Array.replicate (Try.f50.ntmps - (#[u8V k, .int .i64 (a0 : Int), .int .i64 (b0 : Int)] : Array Value).size) undef, defers := [] } := ⟨_, rfl⟩
  have hsz : a.tmps.size = 17 := by rw [ha]; simp [Try.ntmps50]
  have t0 : a.eval (.tmp 0) = u8V k := by rw [ha]; simp [Act.eval]
  have t1 : a.eval (.tmp 1) = .int .i64 (a0 : Int) := by rw [ha]; simp [Act.eval]
  have t2 : a.eval (.tmp 2) = .int .i64 (b0 : Int) := by rw [ha]; simp [Act.eval]
  have hd_a : a.defers = [] := by rw [ha]
  rw [← ha]
  clear ha
  unfold code50
  refine wpIn_seq (region_p 1 ?_)
  intro K hK
  refine ListK.alloc (i := 0) rfl (al83 W) ?_
  refine ListK.done (hK _ _ ?_)
  clear hK K
  have wa := Whole.new W 83 z7
  have hB1 : Below W.heap.size W (W.alloc (.cells z7 83)) := (Below.refl _ W).alloc (Nat.le_refl _) _
  generalize hga : W.heap.size = ga at *
  generalize W.alloc (.cells z7 83) = W1 at *
  refine wpIn_seq (region_p 1 ?_)
  intro K hK
  refine ListK.alloc (i := 0) rfl (al83 W1) ?_
  refine ListK.done (hK _ _ ?_)
  clear hK K
  have wb := Whole.new W1 83 z7
  have hga1 := wa.lt
  have hB2 : Below W1.heap.size W1 (W1.alloc (.cells z7 83)) := (Below.refl _ W1).alloc (Nat.le_refl _) _
  replace wa := wa.below hB2 wa.lt
  replace hB1 := hB1.trans (hB2.mono (by omega))
  generalize hgb : W1.heap.size = gb at *
  have hne : ga ≠ gb := by omega
  generalize W1.alloc (.cells z7 83) = W2 at *
  generalize hA : Act.put _ _ _ = a1
  have hz_a1 : a1.tmps.size = 17 := by rw [← hA]; simp only [size_put, hsz]
  have u0 : a1.eval (.tmp 0) = u8V k := by rw [← hA]; exact (by simp [t0])
  have u1 : a1.eval (.tmp 1) = .int .i64 (a0 : Int) := by rw [← hA]; exact (by simp [t1])
  have u2 : a1.eval (.tmp 2) = .int .i64 (b0 : Int) := by rw [← hA]; exact (by simp [t2])
  have u6 : a1.eval (.tmp 6) = .pointer (some ⟨ga, 0, none⟩) := by rw [← hA]; exact (by simp [hsz])
  have u7 : a1.eval (.tmp 7) = .pointer (some ⟨gb, 0, none⟩) := by rw [← hA]; exact (by simp [hsz])
  have hd_a1 : a1.defers = [] := by rw [← hA]; simp only [defers_put, hd_a]
  clear hA
  refine wpIn_seq (region_p 3 ?_)
  intro K hK
  refine ListK.move (i := 0) (v := u8V k) rfl (by simp [u0]) ?_
  refine ListK.index (i := 1) (u := .pointer (some ⟨gb, 0, none⟩)) (u' := .int .i64 0) (v := .pointer (some ⟨gb, 0, none⟩)) rfl (by simp [u7]) (by simp) (ix83 (i := 0) (by omega) _) ?_
  refine ListK.store (i := 2) (u := .pointer (some ⟨gb, 0, none⟩)) (u' := u8V k) rfl (by simp [hz_a1]) (by simp [hz_a1]) (st5 (wb.cell 0) (wb.frozen 0)) ?_
  refine ListK.done (hK _ _ ?_)
  clear hK K
  replace wb := wb.set 0 (u8V k)
  replace wa := wa.far hne (p := ⟨gb, 0, none⟩) (u8V k)
  replace hB1 := hB1.setCell (p := ⟨gb, 0, none⟩) (by show ga ≤ gb; omega) (u8V k)
  generalize W2.setCell ⟨gb, 0, none⟩ (u8V k) = W3 at *
  refine wpIn_seq (region_p 2 ?_)
  intro K hK
  refine ListK.move (i := 0) (v := .int .i64 (a0 : Int)) rfl (by simp [u1]) ?_
  refine ListK.call (i := 1) (vs := #[.pointer (some ⟨gb, 0, none⟩), .int .i64 1, .int .i64 (a0 : Int)]) rfl (enters_of Try.func78 (by kernel_rfl) rfl) (by simp [hz_a1, u7]) (((digits_any gb _ 1 a0 W3 wb (by simp) (by omega) (by omega))).mono ?_)
  rintro _ Wn ⟨⟨vd, rfl⟩, wn, hE⟩
  replace wb := wn
  replace wa := hE.whole (fun e => hne e) wa
  replace hB1 := hB1.trans (hE.below (by have := hB1.size; omega) (fun k hk e => by omega))
  clear wn hE
  refine ⟨_, rfl, ?_⟩
  refine ListK.done (hK _ _ ?_)
  clear hK K
  generalize hA : Act.put _ _ _ = a2
  have hz_a2 : a2.tmps.size = 17 := by rw [← hA]; simp only [size_put, hz_a1]
  have v2 : a2.eval (.tmp 2) = .int .i64 (b0 : Int) := by rw [← hA]; exact (by simp [u2])
  have v6 : a2.eval (.tmp 6) = .pointer (some ⟨ga, 0, none⟩) := by rw [← hA]; exact (by simp [u6])
  have v7 : a2.eval (.tmp 7) = .pointer (some ⟨gb, 0, none⟩) := by rw [← hA]; exact (by simp [u7])
  have hd_a2 : a2.defers = [] := by rw [← hA]; simp only [defers_put, hd_a1]
  clear hA
  refine wpIn_seq (region_p 2 ?_)
  intro K hK
  refine ListK.move (i := 0) (v := .int .i64 (b0 : Int)) rfl (by simp [v2]) ?_
  refine ListK.call (i := 1) (vs := #[.pointer (some ⟨gb, 0, none⟩), .int .i64 3, .int .i64 (b0 : Int)]) rfl (enters_of Try.func78 (by kernel_rfl) rfl) (by simp [hz_a2, v7]) (((digits_any gb _ 3 b0 _ wb (by simp) (by omega) (by omega))).mono ?_)
  rintro _ Wn ⟨⟨vd, rfl⟩, wn, hE⟩
  replace wb := wn
  replace wa := hE.whole (fun e => hne e) wa
  replace hB1 := hB1.trans (hE.below (by have := hB1.size; omega) (fun k hk e => by omega))
  clear wn hE
  refine ⟨_, rfl, ?_⟩
  refine ListK.done (hK _ _ ?_)
  clear hK K
  generalize hA : Act.put _ _ _ = a3
  have hz_a3 : a3.tmps.size = 17 := by rw [← hA]; simp only [size_put, hz_a2]
  have x6 : a3.eval (.tmp 6) = .pointer (some ⟨ga, 0, none⟩) := by rw [← hA]; exact (by simp [v6])
  have x7 : a3.eval (.tmp 7) = .pointer (some ⟨gb, 0, none⟩) := by rw [← hA]; exact (by simp [v7])
  have hd_a3 : a3.defers = [] := by rw [← hA]; simp only [defers_put, hd_a2]
  clear hA
  simp only [List.setIfInBounds_toArray, List.set_cons_zero, List.set_cons_succ, Nat.reduceAdd] at wb
  refine wpIn_seq (region_p 2 ?_)
  intro K hK
  refine ListK.call (i := 0) (vs := #[.pointer (some ⟨gb, 0, none⟩)]) rfl (enters_of Try.func79 (by kernel_rfl) rfl) (by simp [x7]) (((check7_any gb k (hi2 a0) (lo2 a0) (hi2 b0) (lo2 b0) _ _ _ wb)).mono ?_)
  rintro _ _ ⟨rfl, rfl⟩
  refine ⟨_, rfl, ?_⟩
  refine ListK.call (i := 1) (vs := #[.pointer (some ⟨gb, 0, none⟩), .int .i64 5, .int .i64 ((chk5 k (hi2 a0) (lo2 a0) (hi2 b0) (lo2 b0) : Nat) : Int)]) rfl (enters_of Try.func78 (by kernel_rfl) rfl) (by simp [hz_a3, x7]) (((digits_any gb _ 5 (chk5 k (hi2 a0) (lo2 a0) (hi2 b0) (lo2 b0)) _ wb (by simp) (by omega) (by omega))).mono ?_)
  rintro _ Wn ⟨⟨vd, rfl⟩, wn, hE⟩
  replace wb := wn
  replace wa := hE.whole (fun e => hne e) wa
  replace hB1 := hB1.trans (hE.below (by have := hB1.size; omega) (fun k hk e => by omega))
  clear wn hE
  refine ⟨_, rfl, ?_⟩
  refine ListK.done (hK _ _ ?_)
  clear hK K
  generalize hA : Act.put _ _ _ = a4
  have hz_a4 : a4.tmps.size = 17 := by rw [← hA]; simp only [size_put, hz_a3]
  have y6 : a4.eval (.tmp 6) = .pointer (some ⟨ga, 0, none⟩) := by rw [← hA]; exact (by simp [x6])
  have y7 : a4.eval (.tmp 7) = .pointer (some ⟨gb, 0, none⟩) := by rw [← hA]; exact (by simp [x7])
  have hd_a4 : a4.defers = [] := by rw [← hA]; simp only [defers_put, hd_a3]
  clear hA
  simp only [List.setIfInBounds_toArray, List.set_cons_zero, List.set_cons_succ, Nat.reduceAdd] at wb
  refine wpIn_seq (region_p 2 ?_)
  intro K hK
  refine ListK.load (i := 0) (p := ⟨gb, 0, none⟩) (v := .agg #[u8V k, u8V (hi2 a0), u8V (lo2 a0), u8V (hi2 b0), u8V (lo2 b0), u8V (hi2 (chk5 k (hi2 a0) (lo2 a0) (hi2 b0) (lo2 b0))), u8V (lo2 (chk5 k (hi2 a0) (lo2 a0) (hi2 b0) (lo2 b0)))]) rfl (by simp [y7]) (ld83 wb) ?_
  refine ListK.store (i := 1) (u := .pointer (some ⟨ga, 0, none⟩)) (u' := .agg #[u8V k, u8V (hi2 a0), u8V (lo2 a0), u8V (hi2 b0), u8V (lo2 b0), u8V (hi2 (chk5 k (hi2 a0) (lo2 a0) (hi2 b0) (lo2 b0))), u8V (lo2 (chk5 k (hi2 a0) (lo2 a0) (hi2 b0) (lo2 b0)))]) rfl (by simp [y6]) (by simp [hz_a4]) (st83 wa) ?_
  refine ListK.done (hK _ _ (wpIn_ret ?_))
  exact bodyPost_ret (v := .agg #[u8V k, u8V (hi2 a0), u8V (lo2 a0), u8V (hi2 b0), u8V (lo2 b0), u8V (hi2 (chk5 k (hi2 a0) (lo2 a0) (hi2 b0) (lo2 b0))), u8V (lo2 (chk5 k (hi2 a0) (lo2 a0) (hi2 b0) (lo2 b0)))]) (res83 Try.results50 (by simp [y6]) (put7_whole wa _ _ _ _ _ _ _)) (by simp only [defers_put, hd_a4]) ⟨rfl, by rw [hga]; exact hB1.trans ((put7_else _ _ _ _ _ _ _).below (by have := hB1.size; omega) (fun k hk e => by omega))⟩
end Go.Proofs.YtmdlmmfbcnkanaaR
namespace Go.Proofs.YtmdlmmfbcnkanaaR
open Go.RowKit Go.Shelf
noncomputable def opsLn0 : Array Oper := (Try.f49.body.bind (regionOf 0)).getD #[]
noncomputable def opsLn1 : Array Oper := (Try.f49.body.bind (regionOf 1)).getD #[]
noncomputable def opsLn2 : Array Oper := (Try.f49.body.bind (regionOf 2)).getD #[]
noncomputable def opsLn3 : Array Oper := (Try.f49.body.bind (regionOf 3)).getD #[]
noncomputable def opsLn4 : Array Oper := (Try.f49.body.bind (regionOf 4)).getD #[]
noncomputable def opsLn5 : Array Oper := (Try.f49.body.bind (regionOf 5)).getD #[]
noncomputable def opsLn6 : Array Oper := (Try.f49.body.bind (regionOf 6)).getD #[]
noncomputable def code49 : Code := (.seq (.region 0 opsLn0 false) (.seq (.seq (.region 1 opsLn1 false) (.block 0 (.loop (.seq (.region 2 opsLn2 false) (.seq (.cond (.tmp 8) .skip (.exit 0)) (.seq (.block 1 (.seq (.region 3 opsLn3 false) (.region 4 opsLn4 false))) (.region 5 opsLn5 false))))))) (.seq (.region 6 opsLn6 false) .ret)))
theorem body49 : Try.f49.body = some code49 := by kernel_rfl
abbrev ObP (W : World) (xs : List UInt8) : Ending → World → Prop := fun e w' => ∃ v, e = .returned v ∧ OB W v xs w'
set_option maxHeartbeats 4000000 in
theorem lines_any (A : Option Addr) (l : List (List UInt8)) (c : Nat) (W : World) (hl : l.length ≤ 2000) (hs : RecsAt W W.heap.size A l) :
    Calls Try.prog 49 #[.slice A l.length c] W (ObP W (linesL l)) := by
  refine (callsIn_wide (n := 5)).1 (callsIn_of_wp Try.func49 body49 trivial ?_ rfl)
  obtain ⟨a, ha⟩ : ∃ a : Act, a = { tmps := #[.slice A l.length c] ++ Array.replicate (Try.f49.ntmps - (#[.slice A l.length c] : Array Value).size) undef, defers := [] } := ⟨_, rfl⟩
  have hsz : a.tmps.size = 18 := by rw [ha]; simp [Try.ntmps49]
  have t0 : a.eval (.tmp 0) = .slice A l.length c := by rw [ha]; simp [Act.eval]
  have hd_a : a.defers = [] := by rw [ha]
  rw [← ha]
  clear ha
  unfold code49
  have h7 : ∀ r, r ∈ l → r.length = 7 := fun r hr => by
    obtain ⟨k, hk⟩ := List.mem_iff_getElem?.1 hr
    exact (hs k r hk).1
  refine wpIn_seq (region_p 1 ?_)
  intro K hK
  refine ListK.assign (i := 0) (v := .slice none 0 0) rfl (by simp) ?_
  refine ListK.done (hK _ _ ?_)
  clear hK K
  refine wpIn_seq (wpIn_seq (region_p 3 ?_))
  intro K hK
  refine ListK.move (i := 0) (v := .slice A l.length c) rfl (by simp [t0]) ?_
  refine ListK.len (i := 1) (u := .slice A l.length c) (v := .int .i64 l.length) rfl (by simp [hsz]) (ln108 _ _ _ _ _) rfl ?_
  refine ListK.move (i := 2) (v := .int .i64 0) rfl (by simp) ?_
  refine ListK.done (hK _ _ ?_)
  clear hK K
  refine wpIn_block (wpIn_loop (fun a W' => ∃ (k : Nat) (v : Value), k ≤ l.length ∧ a.tmps.size = 18 ∧ a.defers = [] ∧ a.eval (.tmp 5) = .slice A l.length c ∧ a.eval (.tmp 6) = .int .i64 l.length ∧ a.eval (.tmp 7) = .int .i64 (k : Int) ∧ a.eval (.tmp 2) = v ∧ OB W v (linesL (l.take k)) W') (fun a _ => l.length - (intOf (a.eval (.tmp 7))).toNat)
    ⟨0, .slice none 0 0, by omega, (by simp only [size_put, hsz]), (by simp only [defers_put, hd_a]), (by simp [hsz]), (by simp [hsz]), (by simp [hsz]), (by simp [hsz]), OB.nil W⟩ ?_)
  rintro b1 W1 ⟨k, v, hk, hz_b1, hd_b1, r5, r6, r7, r2, hob⟩
  by_cases hkl : k < l.length
  · skip
    refine wpIn_seq (region_p 1 ?_)
    intro K hK
    refine ListK.bin (i := 0) (u := .int .i64 (k : Int)) (u' := .int .i64 l.length) (v := .bool true) rfl (by simp [r7]) (by simp [r6]) (lssT3 (by omega) _) ?_
    refine ListK.done (hK _ _ ?_)
    clear hK K
    refine wpIn_seq (wpIn_cond (t := true) (by simp [hz_b1]) (wpIn_skip ?_))
    generalize hA : Act.put _ _ _ = b2
    have hz_b2 : b2.tmps.size = 18 := by rw [← hA]; simp only [size_put, hz_b1]
    have s2 : b2.eval (.tmp 2) = v := by rw [← hA]; exact (by simp [r2])
    have s5 : b2.eval (.tmp 5) = .slice A l.length c := by rw [← hA]; exact (by simp [r5])
    have s6 : b2.eval (.tmp 6) = .int .i64 l.length := by rw [← hA]; exact (by simp [r6])
    have s7 : b2.eval (.tmp 7) = .int .i64 (k : Int) := by rw [← hA]; exact (by simp [r7])
    have hd_b2 : b2.defers = [] := by rw [← hA]; simp only [defers_put, hd_b1]
    clear hA
    obtain ⟨hr7, b, off, rfl, hb, hc⟩ := (hs.below hob.low (Nat.le_refl _)) k l[k] (List.getElem?_eq_getElem hkl)
    have htk := linesL_take hkl
    have hlen : (linesL (l.take k)).length ≤ 16000 := by
      rw [linesL_len (fun r hr => h7 r (List.mem_of_mem_take hr))]
      simp
      omega
    obtain ⟨c0, c1, c2, c3, c4, c5, c6, hrec⟩ := len7 hr7
    rw [hrec] at htk hc
    have hx : BytesAt ((put7 (W1.alloc (.cells z7 83)) W1.heap.size (u8V c0) (u8V c1) (u8V c2) (u8V c3) (u8V c4) (u8V c5) (u8V c6))) (put7 (W1.alloc (.cells z7 83)) W1.heap.size (u8V c0) (u8V c1) (u8V c2) (u8V c3) (u8V c4) (u8V c5) (u8V c6)).heap.size (some ⟨W1.heap.size, 0, none⟩) [c0, c1, c2, c3, c4, c5, c6] := by
      have hw := put7_whole (Whole.new W1 83 z7) (u8V c0) (u8V c1) (u8V c2) (u8V c3) (u8V c4) (u8V c5) (u8V c6)
      intro j x hj
      refine ⟨_, _, rfl, hw.lt, ?_⟩
      rw [Nat.zero_add, hw.cell j]
      have : (List.map u8V [c0, c1, c2, c3, c4, c5, c6])[j]? = some (u8V x) := by rw [List.getElem?_map, hj]; rfl
      simpa using this
    have hlow : Below W1.heap.size W1 (put7 (W1.alloc (.cells z7 83)) W1.heap.size (u8V c0) (u8V c1) (u8V c2) (u8V c3) (u8V c4) (u8V c5) (u8V c6)) := ((Below.refl _ W1).alloc (Nat.le_refl _) _).trans ((put7_else (w := W1.alloc (.cells z7 83)) (b := W1.heap.size) (u8V c0) (u8V c1) (u8V c2) (u8V c3) (u8V c4) (u8V c5) (u8V c6)).below (by simp) (fun k hk e => by omega))
    refine wpIn_seq (wpIn_block ?_)
    refine wpIn_seq (region_p 4 ?_)
    intro K hK
    refine ListK.index (i := 0) (u := .slice (some ⟨b, off, none⟩) l.length c) (u' := .int .i64 (k : Int)) (v := .pointer (some ⟨b, off + k * 7, none⟩)) rfl (by simp [s5]) (by simp [s7]) (ix108 hkl _) ?_
    refine ListK.load (i := 1) (p := ⟨b, off + k * 7, none⟩) (v := .agg #[u8V c0, u8V c1, u8V c2, u8V c3, u8V c4, u8V c5, u8V c6]) rfl (by simp [hz_b2]) (ld83o (by simpa using hc 0 c0 rfl) (hc 1 c1 rfl) (hc 2 c2 rfl) (hc 3 c3 rfl) (hc 4 c4 rfl) (hc 5 c5 rfl) (hc 6 c6 rfl)) ?_
    refine ListK.alloc (i := 2) rfl (al83 W1) ?_
    refine ListK.store (i := 3) (u := .pointer (some ⟨W1.heap.size, 0, none⟩)) (u' := .agg #[u8V c0, u8V c1, u8V c2, u8V c3, u8V c4, u8V c5, u8V c6]) rfl (by simp [hz_b2]) (by simp [hz_b2]) (st83 (Whole.new W1 83 z7)) ?_
    refine ListK.done (hK _ _ ?_)
    clear hK K
    generalize hA : Act.put _ _ _ = b3
    have hz_b3 : b3.tmps.size = 18 := by rw [← hA]; simp only [size_put, hz_b2]
    have d2 : b3.eval (.tmp 2) = v := by rw [← hA]; exact (by simp [s2])
    have d4 : b3.eval (.tmp 4) = .pointer (some ⟨W1.heap.size, 0, none⟩) := by rw [← hA]; exact (by simp [hz_b2])
    have d5 : b3.eval (.tmp 5) = .slice (some ⟨b, off, none⟩) l.length c := by rw [← hA]; exact (by simp [s5])
    have d6 : b3.eval (.tmp 6) = .int .i64 l.length := by rw [← hA]; exact (by simp [s6])
    have d7 : b3.eval (.tmp 7) = .int .i64 (k : Int) := by rw [← hA]; exact (by simp [s7])
    have hd_b3 : b3.defers = [] := by rw [← hA]; simp only [defers_put, hd_b2]
    clear hA
    have hob2 := hob.below hlow
    generalize put7 (W1.alloc (.cells z7 83)) W1.heap.size (u8V c0) (u8V c1) (u8V c2) (u8V c3) (u8V c4) (u8V c5) (u8V c6) = W2 at *
    obtain ⟨v3, W3, ha3, hob3⟩ := app31_run (c := 7) (ty := 31) hob2 hx (by omega) (by simp) (by simp)
    have hb4 : Below W3.heap.size W3 (W3.alloc (.cells #[.int .u8 10] 5)) := (Below.refl _ W3).alloc (Nat.le_refl _) _
    have hob4 := hob3.below hb4
    have hx4 : BytesAt (W3.alloc (.cells #[.int .u8 10] 5)) (W3.alloc (.cells #[.int .u8 10] 5)).heap.size (some ⟨W3.heap.size, 0, none⟩) [10] := by
      intro j x hj
      refine ⟨_, _, rfl, by simp, ?_⟩
      match j, hj with
      | 0, hj =>
        simp at hj
        subst hj
        exact (Whole.new W3 5 #[.int .u8 10]).cell 0
    obtain ⟨v5, W5, ha5, hob5⟩ := app31_run (c := 1) (ty := 31) hob4 hx4 (by simp; omega) (by simp) (by simp)
    rw [← htk] at hob5
    refine region_p 6 ?_
    intro K hK
    refine ListK.move (i := 0) (v := v) rfl (by simp [d2]) ?_
    refine ListK.sliceN (i := 1) (u := .pointer (some ⟨W1.heap.size, 0, none⟩)) rfl (by simp [d4]) sl83 ?_
    refine ListK.app31 (i := 2) rfl (by simp [hz_b3]) (by simp [hz_b3]) ha3 ?_
    refine ListK.bsl (i := 3) (ps := #[(0, .int .u8 10)]) (v := .slice (some ⟨W3.heap.size, 0, none⟩) 1 1) rfl (by simp) (bs31 10 W3) ?_
    refine ListK.app31 (i := 4) rfl (by simp [hz_b3]) (by simp [hz_b3]) ha5 ?_
    refine ListK.assign (i := 5) (v := v5) rfl (by simp [hz_b3]) ?_
    refine ListK.done (hK _ _ ?_)
    clear hK K
    generalize hA : Act.put _ _ _ = b4
    have hz_b4 : b4.tmps.size = 18 := by rw [← hA]; simp only [size_put, hz_b3]
    have e2 : b4.eval (.tmp 2) = v5 := by rw [← hA]; exact (by simp [hz_b3])
    have e5 : b4.eval (.tmp 5) = .slice (some ⟨b, off, none⟩) l.length c := by rw [← hA]; exact (by simp [d5])
    have e6 : b4.eval (.tmp 6) = .int .i64 l.length := by rw [← hA]; exact (by simp [d6])
    have e7 : b4.eval (.tmp 7) = .int .i64 (k : Int) := by rw [← hA]; exact (by simp [d7])
    have hd_b4 : b4.defers = [] := by rw [← hA]; simp only [defers_put, hd_b3]
    clear hA
    refine region_p 2 ?_
    intro K hK
    refine ListK.bin (i := 0) (u := .int .i64 (k : Int)) (u' := .int .i64 1) (v := .int .i64 ((k + 1 : Nat) : Int)) rfl (by simp [e7]) (by simp) (add3 (by omega) (by omega) _) ?_
    refine ListK.move (i := 1) (v := .int .i64 ((k + 1 : Nat) : Int)) rfl (by simp [hz_b4]) ?_
    refine ListK.done (hK _ _ ?_)
    clear hK K
    refine ⟨⟨k + 1, v5, by omega, (by simp only [size_put, hz_b4]), (by simp only [defers_put, hd_b4]), (by simp [e5]), (by simp [e6]), (by simp [hz_b4]), (by simp [e2]), hob5⟩, ?_⟩
    rw [r7, show (Act.put _ _ _).eval (.tmp 7) = .int .i64 ((k + 1 : Nat) : Int) from (by simp [hz_b4])]
    simp only [intOf]
    omega
  · skip
    obtain rfl : k = l.length := by omega
    refine wpIn_seq (region_p 1 ?_)
    intro K hK
    refine ListK.bin (i := 0) (u := .int .i64 (l.length : Int)) (u' := .int .i64 l.length) (v := .bool false) rfl (by simp [r7]) (by simp [r6]) (lssF3 (by omega) _) ?_
    refine ListK.done (hK _ _ ?_)
    clear hK K
    refine wpIn_seq (wpIn_cond (t := false) (by simp [hz_b1]) (wpIn_exit ?_))
    generalize hA : Act.put _ _ _ = b2
    have hz_b2 : b2.tmps.size = 18 := by rw [← hA]; simp only [size_put, hz_b1]
    have s2 : b2.eval (.tmp 2) = v := by rw [← hA]; exact (by simp [r2])
    have hd_b2 : b2.defers = [] := by rw [← hA]; simp only [defers_put, hd_b1]
    clear hA
    refine wpIn_seq (region_p 2 ?_)
    intro K hK
    refine ListK.move (i := 0) (v := v) rfl (by simp [s2]) ?_
    refine ListK.assign (i := 1) (v := v) rfl (by simp [hz_b2]) ?_
    refine ListK.done (hK _ _ (wpIn_ret ?_))
    rw [List.take_length] at hob
    exact bodyPost_ret (v := v) (res1 Try.results49 (by simp [hz_b2])) (by simp only [defers_put, hd_b2]) ⟨v, rfl, hob⟩
end Go.Proofs.YtmdlmmfbcnkanaaR
namespace Go.Proofs.YtmdlmmfbcnkanaaR
open Go.RowKit Go.Shelf
noncomputable def opsSu0 : Array Oper := (Try.f52.body.bind (regionOf 0)).getD #[]
noncomputable def opsSu1 : Array Oper := (Try.f52.body.bind (regionOf 1)).getD #[]
noncomputable def opsSu2 : Array Oper := (Try.f52.body.bind (regionOf 2)).getD #[]
noncomputable def opsSu3 : Array Oper := (Try.f52.body.bind (regionOf 3)).getD #[]
noncomputable def opsSu4 : Array Oper := (Try.f52.body.bind (regionOf 4)).getD #[]
noncomputable def opsSu5 : Array Oper := (Try.f52.body.bind (regionOf 5)).getD #[]
noncomputable def code52 : Code := (.seq (.region 0 opsSu0 false) (.seq (.seq (.region 1 opsSu1 false) (.block 0 (.loop (.seq (.seq (.region 2 opsSu2 false) (.cond (.tmp 21) .skip (.exit 0))) (.seq (.block 1 (.region 4 opsSu4 false)) (.region 3 opsSu3 false)))))) (.seq (.region 5 opsSu5 false) .ret)))
theorem body52 : Try.f52.body = some code52 := by kernel_rfl
/-- The sum of the readings from i on, n of them. -/
def sumR (l : List Int) (i n : Nat) : Int := ((l.drop i).take n).sum
theorem sumR_zero (l : List Int) (i : Nat) : sumR l i 0 = 0 := by simp [sumR]
theorem sumR_succ {l : List Int} {i n : Nat} (h : i + n < l.length) : sumR l i (n + 1) = sumR l i n + l[i + n] := by
  unfold sumR
  rw [List.take_succ_eq_append_getElem (by simp; omega)]
  simp
theorem sumR_bound {l : List Int} (h : ∀ (j : Nat) (x : Int), l[j]? = some x → 0 ≤ x ∧ x ≤ 99) (i n : Nat) (hn : n ≤ 1000) : 0 ≤ sumR l i n ∧ sumR l i n ≤ 99 * n := by
  induction n with
  | zero => simp [sumR_zero]
  | succ n ih =>
    have := ih (by omega)
    by_cases hk : i + n < l.length
    · rw [sumR_succ hk]
      have := h (i + n) _ (List.getElem?_eq_getElem hk)
      omega
    · have : sumR l i (n + 1) = sumR l i n := by
        unfold sumR
        rw [List.take_of_length_le (by simp; omega), List.take_of_length_le (by simp; omega)]
      omega
/-- The sum of a block of a series, as its record has it. -/
def sumB (s : Ser) (k : Nat) : Int := sumR s.rd (k * s.width.toNat) s.width.toNat % 100
theorem sumR_all {l : List Int} {i n m : Nat} (h : l.length ≤ i + m) (hm : m ≤ n) : sumR l i n = sumR l i m := by
  unfold sumR
  rw [List.take_of_length_le (by simp; omega), List.take_of_length_le (by simp; omega)]
set_option maxHeartbeats 4000000 in
theorem sum_any (s : Ser) (A : Option Addr) (c k : Nat) (W : World) (hl : s.rd.length ≤ 40) (hw1 : 1 ≤ s.width) (hw2 : s.width ≤ 100) (hk : k ≤ 100) (hin : ∀ (j : Nat) (x : Int), s.rd[j]? = some x → 0 ≤ x ∧ x ≤ 99) (hs : IntsAt W W.heap.size A s.rd) :
    Calls Try.prog 52 #[serV s A c, .int .i64 (k : Int)] W (EvP W (.int .i64 (sumB s k))) := by
  obtain ⟨wd, hwd⟩ : ∃ wd : Nat, s.width = wd := ⟨s.width.toNat, by omega⟩
  have hkw : k * wd ≤ 10000 := Nat.le_trans (Nat.mul_le_mul hk (show wd ≤ 100 by omega)) (by omega)
  have hkw1 : (k + 1) * wd = k * wd + wd := by rw [Nat.add_mul]; omega
  have hsB : sumB s k = sumR s.rd (k * wd) wd % 100 := by unfold sumB; rw [hwd]; rfl
  rw [hsB]
  unfold serV
  rw [hwd]
  refine (callsIn_wide (n := 5)).1 (callsIn_of_wp Try.func52 body52 trivial ?_ rfl)
  obtain ⟨a, ha⟩ : ∃ a : Act, a = { tmps := #[.agg #[.int .i64 (wd : Int), .int .i64 s.step, .slice A s.rd.length c], .int .i64 (k : Int)] ++ Array.replicate (Try.f52.ntmps - (#[.agg #[.int .i64 (wd : Int), .int .i64 s.step, .slice A s.rd.length c], .int .i64 (k : Int)] : Array Value).size) undef, defers := [] } := ⟨_, rfl⟩
  have hsz : a.tmps.size = 33 := by rw [ha]; simp [Try.ntmps52]
  have t0 : a.eval (.tmp 0) = .agg #[.int .i64 (wd : Int), .int .i64 s.step, .slice A s.rd.length c] := by rw [ha]; simp [Act.eval]
  have t1 : a.eval (.tmp 1) = .int .i64 (k : Int) := by rw [ha]; simp [Act.eval]
  have hd_a : a.defers = [] := by rw [ha]
  rw [← ha]
  clear ha
  unfold code52
  refine wpIn_seq (region_p 2 ?_)
  intro K hK
  refine ListK.box (i := 0) (u := .agg #[.int .i64 (wd : Int), .int .i64 s.step, .slice A s.rd.length c]) rfl (by simp [t0]) (bx29 W _ _ _ _ _) ?_
  refine ListK.assign (i := 1) (v := .int .i64 0) rfl (by simp) ?_
  refine ListK.done (hK _ _ ?_)
  clear hK K
  have wb := Whole.new W 29 #[.int .i64 (wd : Int), .int .i64 s.step, .slice A s.rd.length c]
  have hB1 : Below W.heap.size W (W.alloc (.cells #[.int .i64 (wd : Int), .int .i64 s.step, .slice A s.rd.length c] 29)) := (Below.refl _ W).alloc (Nat.le_refl _) _
  have hS1 := hB1.size
  generalize hb3 : W.heap.size = b3 at *
  generalize W.alloc (.cells #[.int .i64 (wd : Int), .int .i64 s.step, .slice A s.rd.length c] 29) = W1 at *
  replace hs : IntsAt W1 W1.heap.size A s.rd := (hs.below hB1 (Nat.le_refl _)).more hS1
  have em : (k : Int) * (wd : Int) = ((k * wd : Nat) : Int) := by push_cast; rfl
  have em1 : ((k : Int) + 1) * (wd : Int) = ((k * wd + wd : Nat) : Int) := by rw [Int.add_mul]; push_cast; omega
  refine wpIn_seq (wpIn_seq (region_p 5 ?_))
  intro K hK
  refine ListK.move (i := 0) (v := .int .i64 (k : Int)) rfl (by simp [t1]) ?_
  refine ListK.field (i := 1) (u := .pointer (some ⟨b3, 0, none⟩)) (v := .pointer (some ⟨b3, 0, none⟩)) rfl (by simp [hsz]) (fa29_0 _) ?_
  refine ListK.load (i := 2) (p := ⟨b3, 0, none⟩) (v := .int .i64 (wd : Int)) rfl (by simp [hsz]) (ld3 (wb.cell 0)) ?_
  refine ListK.bin (i := 3) (u := .int .i64 (k : Int)) (u' := .int .i64 (wd : Int)) (v := .int .i64 ((k * wd : Nat) : Int)) rfl (by simp [hsz]) (by simp [hsz]) (by rw [← em]; exact mul3 (by omega) (by omega) _) ?_
  refine ListK.assign (i := 4) (v := .int .i64 ((k * wd : Nat) : Int)) rfl (by simp [hsz]) ?_
  refine ListK.done (hK _ _ ?_)
  clear hK K
  refine wpIn_block (wpIn_loop (fun a W' => ∃ q : Nat, q ≤ wd ∧ (k * wd + q ≤ s.rd.length ∨ q = 0) ∧ a.tmps.size = 33 ∧ a.defers = [] ∧ a.eval (.tmp 1) = .int .i64 (k : Int) ∧ a.eval (.tmp 2) = .pointer (some ⟨b3, 0, none⟩) ∧ a.eval (.tmp 4) = .int .i64 (sumR s.rd (k * wd) q) ∧ a.eval (.tmp 5) = .int .i64 ((k * wd + q : Nat) : Int) ∧ Below W1.heap.size W1 W') (fun a _ => k * wd + wd - (intOf (a.eval (.tmp 5))).toNat)
    ⟨0, by omega, .inr rfl, (by simp only [size_put, hsz]), (by simp only [defers_put, hd_a]), (by simp [t1]), (by simp [hsz]), by rw [sumR_zero]; exact (by simp [hsz]), (by simp [hsz]), Below.refl _ _⟩ ?_)
  rintro b1 W9 ⟨q, hq, hq2, hz_b1, hd_b1, r1, r2, r4, r5, hb⟩
  have wb9 := wb.below hb wb.lt
  have hs9 := (hs.below hb (Nat.le_refl _)).more hb.size
  have hB9 := hB1.trans (hb.mono (by have := hB1.size; omega))
  have hsb := sumR_bound hin (k * wd) q (by omega)
  have wl := Whole.new W9 3 #[.int .i64 (s.rd.length : Int), .int .i64 ((k * wd + wd : Nat) : Int)]
  have hbl : Below W9.heap.size W9 (W9.alloc (.cells #[.int .i64 (s.rd.length : Int), .int .i64 ((k * wd + wd : Nat) : Int)] 3)) := (Below.refl _ W9).alloc (Nat.le_refl _) _
  by_cases hql : k * wd + q < s.rd.length ∧ q < wd
  · skip
    refine wpIn_seq (wpIn_seq (region_p 12 ?_))
    intro K hK
    refine ListK.move (i := 0) (v := .int .i64 ((k * wd + q : Nat) : Int)) rfl (by simp [r5]) ?_
    refine ListK.field (i := 1) (u := .pointer (some ⟨b3, 0, none⟩)) (v := .pointer (some ⟨b3, 2, none⟩)) rfl (by simp [r2]) (fa29_2 _) ?_
    refine ListK.load (i := 2) (p := ⟨b3, 2, none⟩) (v := .slice A s.rd.length c) rfl (by simp [hz_b1]) (ld22 (wb9.cell 2)) ?_
    refine ListK.len (i := 3) (u := .slice A s.rd.length c) (v := .int .i64 s.rd.length) rfl (by simp [hz_b1]) (ln22 _ _ _ _ _) rfl ?_
    refine ListK.move (i := 4) (v := .int .i64 (k : Int)) rfl (by simp [r1]) ?_
    refine ListK.bin (i := 5) (u := .int .i64 (k : Int)) (u' := .int .i64 1) (v := .int .i64 ((k : Int) + 1)) rfl (by simp [hz_b1]) (by simp) (add3 (by omega) (by omega) _) ?_
    refine ListK.field (i := 6) (u := .pointer (some ⟨b3, 0, none⟩)) (v := .pointer (some ⟨b3, 0, none⟩)) rfl (by simp [r2]) (fa29_0 _) ?_
    refine ListK.load (i := 7) (p := ⟨b3, 0, none⟩) (v := .int .i64 (wd : Int)) rfl (by simp [hz_b1]) (ld3 (wb9.cell 0)) ?_
    refine ListK.bin (i := 8) (u := .int .i64 ((k : Int) + 1)) (u' := .int .i64 (wd : Int)) (v := .int .i64 ((k * wd + wd : Nat) : Int)) rfl (by simp [hz_b1]) (by simp [hz_b1]) (by rw [← em1]; exact mul3 (by omega) (by omega) _) ?_
    refine ListK.bsl (i := 9) (ps := #[(0, .int .i64 s.rd.length), (1, .int .i64 ((k * wd + wd : Nat) : Int))]) (v := .slice (some ⟨W9.heap.size, 0, none⟩) 2 2) rfl (by simp [hz_b1]) (bs22_2 _ _ W9) ?_
    refine ListK.call (i := 10) (vs := #[.slice (some ⟨W9.heap.size, 0, none⟩) 2 2]) rfl (enters_of Try.func80 (by kernel_rfl) rfl) (by simp [hz_b1]) (((least_two W9.heap.size 0 2 (s.rd.length : Int) ((k * wd + wd : Nat) : Int) _ (wl.cell 0) (wl.cell 1))).mono ?_)
    rintro _ _ ⟨rfl, rfl⟩
    refine ⟨_, rfl, ?_⟩
    refine ListK.bin (i := 11) (u := .int .i64 ((k * wd + q : Nat) : Int)) (u' := .int .i64 (min (s.rd.length : Int) ((k * wd + wd : Nat) : Int))) (v := .bool true) rfl (by simp [hz_b1]) (by simp [hz_b1]) (lssT3 (by omega) _) ?_
    refine ListK.done (hK _ _ ?_)
    clear hK K
    refine wpIn_cond (t := true) (by simp [hz_b1]) (wpIn_skip ?_)
    generalize hA : Act.put _ _ _ = b2
    have hz_b2 : b2.tmps.size = 33 := by rw [← hA]; simp only [size_put, hz_b1]
    have s1 : b2.eval (.tmp 1) = .int .i64 (k : Int) := by rw [← hA]; exact (by simp [r1])
    have s2 : b2.eval (.tmp 2) = .pointer (some ⟨b3, 0, none⟩) := by rw [← hA]; exact (by simp [r2])
    have s4 : b2.eval (.tmp 4) = .int .i64 (sumR s.rd (k * wd) q) := by rw [← hA]; exact (by simp [r4])
    have s5 : b2.eval (.tmp 5) = .int .i64 ((k * wd + q : Nat) : Int) := by rw [← hA]; exact (by simp [r5])
    have hd_b2 : b2.defers = [] := by rw [← hA]; simp only [defers_put, hd_b1]
    clear hA
    have e1 : s.rd[k * wd + q]? = some s.rd[k * wd + q] := List.getElem?_eq_getElem hql.1
    have i1 := hin _ _ e1
    replace hb := hb.trans (hbl.mono hb.size)
    have hs10 := (hs9.below hbl (Nat.le_refl _))
    have wb10 := wb9.below hbl wb9.lt
    generalize W9.alloc (.cells #[.int .i64 (s.rd.length : Int), .int .i64 ((k * wd + wd : Nat) : Int)] 3) = W10 at *
    obtain ⟨gb, off, rfl, hgb, c1⟩ := hs10 (k * wd + q) _ e1
    refine wpIn_seq (wpIn_block ?_)
    refine region_p 8 ?_
    intro K hK
    refine ListK.move (i := 0) (v := .int .i64 (sumR s.rd (k * wd) q)) rfl (by simp [s4]) ?_
    refine ListK.field (i := 1) (u := .pointer (some ⟨b3, 0, none⟩)) (v := .pointer (some ⟨b3, 2, none⟩)) rfl (by simp [s2]) (fa29_2 _) ?_
    refine ListK.load (i := 2) (p := ⟨b3, 2, none⟩) (v := .slice (some ⟨gb, off, none⟩) s.rd.length c) rfl (by simp [hz_b2]) (ld22 (wb10.cell 2)) ?_
    refine ListK.move (i := 3) (v := .int .i64 ((k * wd + q : Nat) : Int)) rfl (by simp [s5]) ?_
    refine ListK.index (i := 4) (u := .slice (some ⟨gb, off, none⟩) s.rd.length c) (u' := .int .i64 ((k * wd + q : Nat) : Int)) (v := .pointer (some ⟨gb, off + (k * wd + q), none⟩)) rfl (by simp [hz_b2]) (by simp [hz_b2]) (ix22 hql.1 _) ?_
    refine ListK.load (i := 5) (p := ⟨gb, off + (k * wd + q), none⟩) (v := .int .i64 s.rd[k * wd + q]) rfl (by simp [hz_b2]) (ld3 (c1)) ?_
    refine ListK.bin (i := 6) (u := .int .i64 (sumR s.rd (k * wd) q)) (u' := .int .i64 s.rd[k * wd + q]) (v := .int .i64 (sumR s.rd (k * wd) (q + 1))) rfl (by simp [hz_b2]) (by simp [hz_b2]) (by rw [sumR_succ hql.1]; exact add3 (by omega) (by omega) _) ?_
    refine ListK.assign (i := 7) (v := .int .i64 (sumR s.rd (k * wd) (q + 1))) rfl (by simp [hz_b2]) ?_
    refine ListK.done (hK _ _ ?_)
    clear hK K
    generalize hA : Act.put _ _ _ = b3_
    have hz_b3_ : b3_.tmps.size = 33 := by rw [← hA]; simp only [size_put, hz_b2]
    have y1 : b3_.eval (.tmp 1) = .int .i64 (k : Int) := by rw [← hA]; exact (by simp [s1])
    have y2 : b3_.eval (.tmp 2) = .pointer (some ⟨b3, 0, none⟩) := by rw [← hA]; exact (by simp [s2])
    have y4 : b3_.eval (.tmp 4) = .int .i64 (sumR s.rd (k * wd) (q + 1)) := by rw [← hA]; exact (by simp [hz_b2])
    have y5 : b3_.eval (.tmp 5) = .int .i64 ((k * wd + q : Nat) : Int) := by rw [← hA]; exact (by simp [s5])
    have hd_b3_ : b3_.defers = [] := by rw [← hA]; simp only [defers_put, hd_b2]
    clear hA
    refine region_p 3 ?_
    intro K hK
    refine ListK.move (i := 0) (v := .int .i64 ((k * wd + q : Nat) : Int)) rfl (by simp [y5]) ?_
    refine ListK.bin (i := 1) (u := .int .i64 ((k * wd + q : Nat) : Int)) (u' := .int .i64 1) (v := .int .i64 ((k * wd + (q + 1) : Nat) : Int)) rfl (by simp [hz_b3_]) (by simp) (add3 (by omega) (by omega) _) ?_
    refine ListK.assign (i := 2) (v := .int .i64 ((k * wd + (q + 1) : Nat) : Int)) rfl (by simp [hz_b3_]) ?_
    refine ListK.done (hK _ _ ?_)
    clear hK K
    refine ⟨⟨q + 1, by omega, by omega, (by simp only [size_put, hz_b3_]), (by simp only [defers_put, hd_b3_]), (by simp [y1]), (by simp [y2]), (by simp [y4]), (by simp [hz_b3_]), hb⟩, ?_⟩
    rw [r5, show (Act.put _ _ _).eval (.tmp 5) = .int .i64 ((k * wd + (q + 1) : Nat) : Int) from (by simp [hz_b3_])]
    simp only [intOf]
    omega
  · skip
    refine wpIn_seq (wpIn_seq (region_p 12 ?_))
    intro K hK
    refine ListK.move (i := 0) (v := .int .i64 ((k * wd + q : Nat) : Int)) rfl (by simp [r5]) ?_
    refine ListK.field (i := 1) (u := .pointer (some ⟨b3, 0, none⟩)) (v := .pointer (some ⟨b3, 2, none⟩)) rfl (by simp [r2]) (fa29_2 _) ?_
    refine ListK.load (i := 2) (p := ⟨b3, 2, none⟩) (v := .slice A s.rd.length c) rfl (by simp [hz_b1]) (ld22 (wb9.cell 2)) ?_
    refine ListK.len (i := 3) (u := .slice A s.rd.length c) (v := .int .i64 s.rd.length) rfl (by simp [hz_b1]) (ln22 _ _ _ _ _) rfl ?_
    refine ListK.move (i := 4) (v := .int .i64 (k : Int)) rfl (by simp [r1]) ?_
    refine ListK.bin (i := 5) (u := .int .i64 (k : Int)) (u' := .int .i64 1) (v := .int .i64 ((k : Int) + 1)) rfl (by simp [hz_b1]) (by simp) (add3 (by omega) (by omega) _) ?_
    refine ListK.field (i := 6) (u := .pointer (some ⟨b3, 0, none⟩)) (v := .pointer (some ⟨b3, 0, none⟩)) rfl (by simp [r2]) (fa29_0 _) ?_
    refine ListK.load (i := 7) (p := ⟨b3, 0, none⟩) (v := .int .i64 (wd : Int)) rfl (by simp [hz_b1]) (ld3 (wb9.cell 0)) ?_
    refine ListK.bin (i := 8) (u := .int .i64 ((k : Int) + 1)) (u' := .int .i64 (wd : Int)) (v := .int .i64 ((k * wd + wd : Nat) : Int)) rfl (by simp [hz_b1]) (by simp [hz_b1]) (by rw [← em1]; exact mul3 (by omega) (by omega) _) ?_
    refine ListK.bsl (i := 9) (ps := #[(0, .int .i64 s.rd.length), (1, .int .i64 ((k * wd + wd : Nat) : Int))]) (v := .slice (some ⟨W9.heap.size, 0, none⟩) 2 2) rfl (by simp [hz_b1]) (bs22_2 _ _ W9) ?_
    refine ListK.call (i := 10) (vs := #[.slice (some ⟨W9.heap.size, 0, none⟩) 2 2]) rfl (enters_of Try.func80 (by kernel_rfl) rfl) (by simp [hz_b1]) (((least_two W9.heap.size 0 2 (s.rd.length : Int) ((k * wd + wd : Nat) : Int) _ (wl.cell 0) (wl.cell 1))).mono ?_)
    rintro _ _ ⟨rfl, rfl⟩
    refine ⟨_, rfl, ?_⟩
    refine ListK.bin (i := 11) (u := .int .i64 ((k * wd + q : Nat) : Int)) (u' := .int .i64 (min (s.rd.length : Int) ((k * wd + wd : Nat) : Int))) (v := .bool false) rfl (by simp [hz_b1]) (by simp [hz_b1]) (lssF3 (by omega) _) ?_
    refine ListK.done (hK _ _ ?_)
    clear hK K
    refine wpIn_cond (t := false) (by simp [hz_b1]) (wpIn_exit ?_)
    generalize hA : Act.put _ _ _ = b2
    have hz_b2 : b2.tmps.size = 33 := by rw [← hA]; simp only [size_put, hz_b1]
    have s4 : b2.eval (.tmp 4) = .int .i64 (sumR s.rd (k * wd) q) := by rw [← hA]; exact (by simp [r4])
    have hd_b2 : b2.defers = [] := by rw [← hA]; simp only [defers_put, hd_b1]
    clear hA
    have hfin : sumR s.rd (k * wd) q = sumR s.rd (k * wd) wd := by
      by_cases hqw : q = wd
      · rw [hqw]
      · exact (sumR_all (by omega) (by omega)).symm
    rw [hfin] at s4 hsb
    refine wpIn_seq (region_p 3 ?_)
    intro K hK
    refine ListK.move (i := 0) (v := .int .i64 (sumR s.rd (k * wd) wd)) rfl (by simp [s4]) ?_
    refine ListK.bin (i := 1) (u := .int .i64 (sumR s.rd (k * wd) wd)) (u' := .int .i64 100) (v := .int .i64 (sumR s.rd (k * wd) wd % 100)) rfl (by simp [hz_b2]) (by simp) (rem3r (by omega) (by omega) rfl _) ?_
    refine ListK.assign (i := 2) (v := .int .i64 (sumR s.rd (k * wd) wd % 100)) rfl (by simp [hz_b2]) ?_
    refine ListK.done (hK _ _ (wpIn_ret ?_))
    exact bodyPost_ret (res1 Try.results52 (by simp [hz_b2])) (by simp only [defers_put, hd_b2]) ⟨rfl, by rw [hb3]; exact hB9.trans (hbl.mono (by have := hB9.size; omega))⟩
end Go.Proofs.YtmdlmmfbcnkanaaR
namespace Go.Proofs.YtmdlmmfbcnkanaaR
open Go.RowKit Go.Shelf
noncomputable def opsWr0 : Array Oper := (Try.f19.body.bind (regionOf 0)).getD #[]
noncomputable def opsWr1 : Array Oper := (Try.f19.body.bind (regionOf 1)).getD #[]
noncomputable def opsWr2 : Array Oper := (Try.f19.body.bind (regionOf 2)).getD #[]
noncomputable def opsWr3 : Array Oper := (Try.f19.body.bind (regionOf 3)).getD #[]
noncomputable def opsWr4 : Array Oper := (Try.f19.body.bind (regionOf 4)).getD #[]
noncomputable def opsWr5 : Array Oper := (Try.f19.body.bind (regionOf 5)).getD #[]
noncomputable def opsWr6 : Array Oper := (Try.f19.body.bind (regionOf 6)).getD #[]
noncomputable def opsWr7 : Array Oper := (Try.f19.body.bind (regionOf 7)).getD #[]
noncomputable def opsWr8 : Array Oper := (Try.f19.body.bind (regionOf 8)).getD #[]
noncomputable def opsWr9 : Array Oper := (Try.f19.body.bind (regionOf 9)).getD #[]
noncomputable def opsWr10 : Array Oper := (Try.f19.body.bind (regionOf 10)).getD #[]
noncomputable def opsWr11 : Array Oper := (Try.f19.body.bind (regionOf 11)).getD #[]
noncomputable def opsWr12 : Array Oper := (Try.f19.body.bind (regionOf 12)).getD #[]
noncomputable def wr_c : Code := (.seq (.seq (.region 5 opsWr5 false) (.block 0 (.loop (.seq (.region 6 opsWr6 false) (.seq (.cond (.tmp 29) .skip (.exit 0)) (.seq (.block 1 (.seq (.region 7 opsWr7 false) (.seq (.region 8 opsWr8 false) (.seq (.region 9 opsWr9 false) (.cond (.tmp 43) (.region 10 opsWr10 true) .skip))))) (.region 11 opsWr11 false))))))) (.seq (.region 12 opsWr12 false) .ret))
noncomputable def wr_b : Code := (.seq (.region 4 opsWr4 false) wr_c)
noncomputable def code19 : Code := (.seq (.region 0 opsWr0 false) (.seq (.seq (.region 1 opsWr1 false) (.seq (.region 2 opsWr2 false) (.cond (.tmp 11) (.seq (.region 3 opsWr3 false) .ret) .skip))) wr_b))
theorem body19 : Try.f19.body = some code19 := by kernel_rfl
/-- The records of a series, up to a reading. -/
def recsTo (s : Ser) : Nat → List (List UInt8)
  | 0 => [made 72 s.rd.length (10 * s.width.toNat + s.step.toNat)]
  | k + 1 => (recsTo s k ++ [made 82 k (s.rd.getD k 0).toNat]) ++ if closesB s.rd.length s.width k then [made 80 (k / s.width.toNat) (sumB s (k / s.width.toNat)).toNat] else []
def fileL (s : Ser) : List (List UInt8) := recsTo s s.rd.length
theorem recsTo_len (s : Ser) (k : Nat) : (recsTo s k).length ≤ 1 + 2 * k := by
  induction k with
  | zero => simp [recsTo]
  | succ k ih =>
    unfold recsTo
    split <;> simp <;> omega
theorem recsTo_seven (s : Ser) (k : Nat) : ∀ r, r ∈ recsTo s k → r.length = 7 := by
  induction k with
  | zero =>
    intro r hr
    simp [recsTo] at hr
    rw [hr]
    rfl
  | succ k ih =>
    intro r hr
    unfold recsTo at hr
    rcases List.mem_append.1 hr with h | h
    · rcases List.mem_append.1 h with h | h
      · exact ih r h
      · simp at h
        rw [h]
        rfl
    · split at h
      · simp at h
        rw [h]
        rfl
      · cases h
theorem ser_valid {s : Ser} (h : faultS s = 0) : (1 ≤ s.rd.length ∧ s.rd.length ≤ 40) ∧ (2 ≤ s.width ∧ s.width ≤ 8) ∧ (1 ≤ s.step ∧ s.step ≤ 9) ∧ (∀ (j : Nat) (x : Int), s.rd[j]? = some x → 0 ≤ x ∧ x ≤ 99) ∧ nearL s.step s.rd = true := by
  unfold faultS at h
  split at h
  · cases h
  · split at h
    · rename_i h2 h3
      simp only [Bool.and_eq_true] at h3
      obtain ⟨⟨a, b⟩, c⟩ := h3
      obtain ⟨d, e, f⟩ := headOk_iff.1 a
      exact ⟨by omega, e, f, fun j x hx => inR_iff.1 (List.all_eq_true.1 b x (List.mem_of_getElem? hx)), c⟩
    · cases h
abbrev WrP (W : World) (s : Ser) : Ending → World → Prop := fun e w' => ∃ v, e = .returned (.tuple #[v, .int .i64 (faultS s)]) ∧ OB W v (if faultS s = 0 then linesL (fileL s) else []) w'
section
attribute [local irreducible] AnyK StepK
variable {b3 c : Nat} {A : Option Addr} {a1 : Act} {W W2 : World} {s : Ser} {v : Value} {wd st : Nat}
set_option maxHeartbeats 8000000 in
theorem wr_put (hz_a1 : a1.tmps.size = 61) (hd_a1 : a1.defers = []) (u1 : a1.eval (.tmp 1) = .pointer (some ⟨b3, 0, none⟩)) (u5 : a1.eval (.tmp 5) = v) {n : Nat} {u6 : a1.eval (.tmp 6) = .int .i64 (n : Int)} {xs : List UInt8} {W3 : World}
    (wb : Whole W2 b3 29 #[.int .i64 (wd : Int), .int .i64 (st : Int), .slice A s.rd.length c]) (hs : IntsAt W2 W2.heap.size A s.rd) (hB1 : Below W.heap.size W W2) (hf : faultS s = 0) (hwd : s.width = wd) (hst : s.step = st) (hn : n < s.rd.length) (hob : OB W2 v xs W3) (hx : xs.length ≤ 10000) {Q : Exit → Act → World → Prop}
    (hQ : ∀ a2 W4 v2, a2.tmps.size = 61 → a2.defers = [] → a2.eval (.tmp 5) = v2 → (∀ e : Nat, e < 44 → e ≠ 5 → a2.eval (.tmp e) = a1.eval (.tmp e)) → OB W2 v2 (xs ++ linesL [made 80 (n / wd) (sumB s (n / wd)).toNat]) W4 → Q .normal a2 W4) :
    (Code.region 10 opsWr10 true).wpIn Fence.wide 5 Try.prog Q a1 W3 := by
  obtain ⟨hl, hw, hst', hin, _⟩ := ser_valid hf
  have hwb3 : Whole W3.drew b3 29 #[.int .i64 (wd : Int), .int .i64 (st : Int), .slice A s.rd.length c] := wb.below (hob.low.trans ((Below.refl _ _).drew)) wb.lt
  have hobd := hob.below ((Below.refl W3.heap.size W3).drew)
  have hq : n / wd ≤ n := Nat.div_le_self _ _
  have eq1 : ((n : Int) / (wd : Int)) = ((n / wd : Nat) : Int) := by push_cast; rfl
  have hsb : 0 ≤ sumB s (n / wd) ∧ sumB s (n / wd) < 100 := ⟨Int.emod_nonneg _ (by omega), Int.emod_lt_of_pos _ (by omega)⟩
  obtain ⟨sb, hsbn⟩ : ∃ sb : Nat, sumB s (n / wd) = sb := ⟨(sumB s (n / wd)).toNat, by omega⟩
  have hsbt : (sumB s (n / wd)).toNat = sb := by omega
  rw [hsbt] at hQ
  have hserV : serV s A c = .agg #[.int .i64 (wd : Int), .int .i64 (st : Int), .slice A s.rd.length c] := by unfold serV; rw [hwd, hst]
  have hsum := sum_any s A c (n / wd) W3.drew (by omega) (by omega) (by omega) (by omega) hin ((hs.below hobd.low (Nat.le_refl _)).more hobd.low.size)
  rw [hserV, hsbn] at hsum
  refine region_K (KpR (RCn b3 (wd : Int) (st : Int) A s.rd.length c) (fun _ => false)) (wideF_plain _) (by kernel_rfl) Try.mixed ?_
  change AnyK _ _ _ _ 16 (Array.replicate 16 false) _ _
  have hR : (RCn b3 (wd : Int) (st : Int) A s.rd.length c) W3.drew := ⟨hwb3.cell 0, hwb3.cell 1, hwb3.cell 2⟩
  refine AnyK.move (i := 0) may_o (v := v) (by simp [u5]) hR ?_
  refine AnyK.move (i := 1) may_o (v := .int .i64 (n : Int)) (by simp [u6]) hR ?_
  refine AnyK.field (i := 2) may_o (u := .pointer (some ⟨b3, 0, none⟩)) (v := .pointer (some ⟨b3, 0, none⟩)) (by simp [u1]) (fun w => fa29_0 w) hR ?_
  refine AnyK.load (i := 3) may_o (p := ⟨b3, 0, none⟩) (v := .int .i64 (wd : Int)) (by simp [hz_a1]) (fun w hw => ld3 hw.1) hR ?_
  refine AnyK.bin (i := 4) may_o (u := .int .i64 (n : Int)) (u' := .int .i64 (wd : Int)) (v := .int .i64 ((n / wd : Nat) : Int)) (by simp [hz_a1]) (by simp [hz_a1]) (fun w => by rw [← eq1]; exact quo3r (by omega) (by omega) (by omega) rfl w) hR ?_
  refine AnyK.load (i := 5) may_o (p := ⟨b3, 0, none⟩) (v := .agg #[.int .i64 (wd : Int), .int .i64 (st : Int), .slice A s.rd.length c]) (by simp [u1]) (fun w hw => ld29 hw) hR ?_
  refine AnyK.move (i := 6) may_o (v := .int .i64 (n : Int)) (by simp [u6]) hR ?_
  refine AnyK.field (i := 7) may_o (u := .pointer (some ⟨b3, 0, none⟩)) (v := .pointer (some ⟨b3, 0, none⟩)) (by simp [u1]) (fun w => fa29_0 w) hR ?_
  refine AnyK.load (i := 8) may_o (p := ⟨b3, 0, none⟩) (v := .int .i64 (wd : Int)) (by simp [hz_a1]) (fun w hw => ld3 hw.1) hR ?_
  refine AnyK.bin (i := 9) may_o (u := .int .i64 (n : Int)) (u' := .int .i64 (wd : Int)) (v := .int .i64 ((n / wd : Nat) : Int)) (by simp [hz_a1]) (by simp [hz_a1]) (fun w => by rw [← eq1]; exact quo3r (by omega) (by omega) (by omega) rfl w) hR ?_
  refine AnyK.pick1 (i := 10) (by kernel_rfl) ?_
  refine StepK.call (i := 10) (f := 52) (vs := #[.agg #[.int .i64 (wd : Int), .int .i64 (st : Int), .slice A s.rd.length c], .int .i64 ((n / wd : Nat) : Int)]) rfl (enters_of Try.func52 (by kernel_rfl) rfl) rfl (by simp [hz_a1]) ((hsum).mono ?_)
  rintro _ W5 ⟨rfl, hb5⟩
  have hob5 := hobd.below hb5
  have wb5 := hwb3.below hb5 hwb3.lt
  replace hR : (RCn b3 (wd : Int) (st : Int) A s.rd.length c) W5 := ⟨wb5.cell 0, wb5.cell 1, wb5.cell 2⟩
  refine ⟨_, rfl, fun _ _ => hR, ?_⟩
  refine AnyK.pick1 (i := 11) (by kernel_rfl) ?_
  refine StepK.call (i := 11) (f := 50) (vs := #[.int .u8 80, .int .i64 ((n / wd : Nat) : Int), .int .i64 (sb : Int)]) rfl (enters_of Try.func50 (by kernel_rfl) rfl) rfl (by simp [hz_a1]) ((made_any 80 (n / wd) sb W5 (by omega) (by omega)).mono ?_)
  rintro _ W6 ⟨rfl, hb6⟩
  have hob6 := hob5.below hb6
  have wb6 := wb5.below hb6 wb5.lt
  replace hR : (RCn b3 (wd : Int) (st : Int) A s.rd.length c) W6 := ⟨wb6.cell 0, wb6.cell 1, wb6.cell 2⟩
  refine ⟨_, rfl, fun _ _ => hR, ?_⟩
  refine AnyK.pick1 (i := 12) (by kernel_rfl) ?_
  have hob7 := hob6.below (oneRec_low W6 (made 80 (n / wd) sb))
  have wb7 := wb6.below (oneRec_low W6 (made 80 (n / wd) sb)) wb6.lt
  replace hR : (RCn b3 (wd : Int) (st : Int) A s.rd.length c) (oneRec W6 (made 80 (n / wd) sb)) := ⟨wb7.cell 0, wb7.cell 1, wb7.cell 2⟩
  refine StepK.buildG (i := 12) (ps := #[(0, .agg (recC (made 80 (n / wd) sb)))]) rfl (by simp [hz_a1]) (bs108r (made_len _ _ _) W6) (fun _ _ => hR) ?_
  refine AnyK.pick1 (i := 13) (by kernel_rfl) ?_
  refine StepK.call (i := 13) (f := 49) (vs := #[.slice (some ⟨W6.heap.size, 0, none⟩) 1 1]) rfl (enters_of Try.func49 (by kernel_rfl) rfl) rfl (by simp [hz_a1]) ((lines_any (some ⟨W6.heap.size, 0, none⟩) [made 80 (n / wd) sb] 1 (oneRec W6 (made 80 (n / wd) sb)) (by simp) (oneRec_at (made_len _ _ _) W6)).mono ?_)
  rintro _ W8 ⟨v57, rfl, ho57⟩
  obtain ⟨A57, c57, rfl, _, hy57⟩ := ho57.bytes
  have hob8 := hob7.below ho57.low
  have wb8 := wb7.below ho57.low wb7.lt
  replace hR : (RCn b3 (wd : Int) (st : Int) A s.rd.length c) W8 := ⟨wb8.cell 0, wb8.cell 1, wb8.cell 2⟩
  refine ⟨_, rfl, fun _ _ => hR, ?_⟩
  refine AnyK.pick1 (i := 14) (by kernel_rfl) ?_
  obtain ⟨v58, W9, ha58, hob9⟩ := app31_run (c := c57) (ty := 31) hob8 hy57 (by omega) (by simp [linesL, made]) (by simp [linesL, made])
  have wb9 := wb.below hob9.low wb.lt
  replace hR : (RCn b3 (wd : Int) (st : Int) A s.rd.length c) W9 := ⟨wb9.cell 0, wb9.cell 1, wb9.cell 2⟩
  refine StepK.app31 (i := 14) rfl (by simp [hz_a1]) (by simp [hz_a1]) ha58 (fun _ _ => hR) ?_
  refine AnyK.assign (i := 15) may_o (v := v58) (by simp [hz_a1]) hR ?_
  refine AnyK.done (by kernel_rfl) ?_
  refine hQ _ W9 v58 (by simp only [size_put, hz_a1]) (by simp only [defers_put, hd_a1]) (by simp [hz_a1]) (fun e h1 h2 => ?_) hob9
  iterate 16 refine (ev_ne (by omega)).trans ?_
  rfl
end
end Go.Proofs.YtmdlmmfbcnkanaaR
namespace Go.Proofs.YtmdlmmfbcnkanaaR
open Go.RowKit Go.Shelf
theorem recsTo_snoc (s : Ser) {k : Nat} {x : Int} (hx : s.rd[k]? = some x) (b : Bool) (hb : b = closesB s.rd.length s.width k) : linesL (recsTo s (k + 1)) = linesL (recsTo s k) ++ linesL [made 82 k x.toNat] ++ (if b then linesL [made 80 (k / s.width.toNat) (sumB s (k / s.width.toNat)).toNat] else []) := by
  have e : s.rd.getD k 0 = x := by simp [hx]
  subst hb
  show linesL ((recsTo s k ++ [made 82 k (s.rd.getD k 0).toNat]) ++ _) = _
  rw [linesL_app, linesL_app, e]
  split <;> simp [linesL]
section
variable {b3 c : Nat} {A : Option Addr} {a1 : Act} {W W2 : World} {s : Ser} {v : Value} {wd st : Nat}
set_option maxHeartbeats 400000 in
theorem wr_loop {W3 : World} (hz_a1 : a1.tmps.size = 61) (hd_a1 : a1.defers = []) (u1 : a1.eval (.tmp 1) = .pointer (some ⟨b3, 0, none⟩)) (u5 : a1.eval (.tmp 5) = v)
    (wb : Whole W2 b3 29 #[.int .i64 (wd : Int), .int .i64 (st : Int), .slice A s.rd.length c]) (hs : IntsAt W2 W2.heap.size A s.rd) (hB1 : Below W.heap.size W W2) (hf : faultS s = 0) (hwd : s.width = wd) (hst : s.step = st) (hob : OB W2 v (linesL (recsTo s 0)) W3) :
    wr_c.wpIn Fence.wide 5 Try.prog (bodyPost Try.prog Try.f19 (WrP W s)) a1 W3 := by
  obtain ⟨hl, hw, hst', hin, _⟩ := ser_valid hf
  have hserV : serV s A c = .agg #[.int .i64 (wd : Int), .int .i64 (st : Int), .slice A s.rd.length c] := by unfold serV; rw [hwd, hst]
  have hwn : s.width.toNat = wd := by omega
  unfold wr_c
  have wb3 := wb.below hob.low wb.lt
  refine wpIn_seq (wpIn_seq (region_p 4 ?_))
  intro K hK
  refine ListK.field (i := 0) (u := .pointer (some ⟨b3, 0, none⟩)) (v := .pointer (some ⟨b3, 2, none⟩)) rfl (by simp [u1]) (fa29_2 _) ?_
  refine ListK.load (i := 1) (p := ⟨b3, 2, none⟩) (v := .slice A s.rd.length c) rfl (by simp [hz_a1]) (ld22 (wb3.cell 2)) ?_
  refine ListK.len (i := 2) (u := .slice A s.rd.length c) (v := .int .i64 s.rd.length) rfl (by simp [hz_a1]) (ln22 _ _ _ _ _) rfl ?_
  refine ListK.move (i := 3) (v := .int .i64 0) rfl (by simp) ?_
  refine ListK.done (hK _ _ ?_)
  clear hK K
  refine wpIn_block (wpIn_loop (fun a W' => ∃ (k : Nat) (v : Value), k ≤ s.rd.length ∧ a.tmps.size = 61 ∧ a.defers = [] ∧ a.eval (.tmp 1) = .pointer (some ⟨b3, 0, none⟩) ∧ a.eval (.tmp 5) = v ∧ a.eval (.tmp 26) = .slice A s.rd.length c ∧ a.eval (.tmp 27) = .int .i64 s.rd.length ∧ a.eval (.tmp 28) = .int .i64 (k : Int) ∧ OB W2 v (linesL (recsTo s k)) W') (fun a _ => s.rd.length - (intOf (a.eval (.tmp 28))).toNat)
    ⟨0, v, by omega, (by simp only [size_put, hz_a1]), (by simp only [defers_put, hd_a1]), (by simp [u1]), (by simp [u5]), (by simp [hz_a1]), (by simp [hz_a1]), (by simp [hz_a1]), hob⟩ ?_)
  clear hob wb3
  rintro b1 W4 ⟨k, v, hk, hz_b1, hd_b1, r1, r5, r26, r27, r28, hob⟩
  have wb4 := wb.below hob.low wb.lt
  by_cases hkl : k < s.rd.length
  · skip
    refine wpIn_seq (region_p 1 ?_)
    intro K hK
    refine ListK.bin (i := 0) (u := .int .i64 (k : Int)) (u' := .int .i64 s.rd.length) (v := .bool true) rfl (by simp [r28]) (by simp [r27]) (lssT3 (by omega) _) ?_
    refine ListK.done (hK _ _ ?_)
    clear hK K
    refine wpIn_seq (wpIn_cond (t := true) (by simp [hz_b1]) (wpIn_skip ?_))
    generalize hA : Act.put _ _ _ = b2
    have hz_b2 : b2.tmps.size = 61 := by rw [← hA]; simp only [size_put, hz_b1]
    have s1 : b2.eval (.tmp 1) = .pointer (some ⟨b3, 0, none⟩) := by rw [← hA]; exact (by simp [r1])
    have s5 : b2.eval (.tmp 5) = v := by rw [← hA]; exact (by simp [r5])
    have s26 : b2.eval (.tmp 26) = .slice A s.rd.length c := by rw [← hA]; exact (by simp [r26])
    have s27 : b2.eval (.tmp 27) = .int .i64 s.rd.length := by rw [← hA]; exact (by simp [r27])
    have s28 : b2.eval (.tmp 28) = .int .i64 (k : Int) := by rw [← hA]; exact (by simp [r28])
    have hd_b2 : b2.defers = [] := by rw [← hA]; simp only [defers_put, hd_b1]
    clear hA
    have e1 : s.rd[k]? = some s.rd[k] := List.getElem?_eq_getElem hkl
    obtain ⟨xn, hxn⟩ : ∃ x : Nat, s.rd[k] = x := ⟨s.rd[k].toNat, by have := hin _ _ e1; omega⟩
    rw [hxn] at e1
    have i1 := hin _ _ e1
    obtain ⟨gb, off, rfl, hgb, c1⟩ := (hs.below hob.low (Nat.le_refl _)) k _ e1
    have hsn := recsTo_snoc s e1 _ rfl
    rw [hwn, Int.toNat_natCast] at hsn
    have hlen : (linesL (recsTo s k)).length ≤ 8 * (1 + 2 * k) := by
      rw [linesL_len (recsTo_seven s k)]
      have := recsTo_len s k
      omega
    refine wpIn_seq (wpIn_block ?_)
    refine wpIn_seq (region_p 5 ?_)
    intro K hK
    refine ListK.move (i := 0) (v := .int .i64 (k : Int)) rfl (by simp [s28]) ?_
    refine ListK.index (i := 1) (u := .slice (some ⟨gb, off, none⟩) s.rd.length c) (u' := .int .i64 (k : Int)) (v := .pointer (some ⟨gb, off + k, none⟩)) rfl (by simp [s26]) (by simp [s28]) (ix22 hkl _) ?_
    refine ListK.load (i := 2) (p := ⟨gb, off + k, none⟩) (v := .int .i64 (xn : Int)) rfl (by simp [hz_b2]) (ld3 (c1)) ?_
    refine ListK.assign (i := 3) (v := .int .i64 (k : Int)) rfl (by simp [hz_b2]) ?_
    refine ListK.assign (i := 4) (v := .int .i64 (xn : Int)) rfl (by simp [hz_b2]) ?_
    refine ListK.done (hK _ _ ?_)
    clear hK K
    generalize hA : Act.put _ _ _ = b3_
    have hz_b3_ : b3_.tmps.size = 61 := by rw [← hA]; simp only [size_put, hz_b2]
    have y1 : b3_.eval (.tmp 1) = .pointer (some ⟨b3, 0, none⟩) := by rw [← hA]; exact (by simp [s1])
    have y5 : b3_.eval (.tmp 5) = v := by rw [← hA]; exact (by simp [s5])
    have y6 : b3_.eval (.tmp 6) = .int .i64 (k : Int) := by rw [← hA]; exact (by simp [hz_b2])
    have y7 : b3_.eval (.tmp 7) = .int .i64 (xn : Int) := by rw [← hA]; exact (by simp [hz_b2])
    have y26 : b3_.eval (.tmp 26) = .slice (some ⟨gb, off, none⟩) s.rd.length c := by rw [← hA]; exact (by simp [s26])
    have y27 : b3_.eval (.tmp 27) = .int .i64 s.rd.length := by rw [← hA]; exact (by simp [s27])
    have y28 : b3_.eval (.tmp 28) = .int .i64 (k : Int) := by rw [← hA]; exact (by simp [s28])
    have hd_b3_ : b3_.defers = [] := by rw [← hA]; simp only [defers_put, hd_b2]
    clear hA
    refine wpIn_seq (region_p 8 ?_)
    intro K hK
    refine ListK.move (i := 0) (v := v) rfl (by simp [y5]) ?_
    refine ListK.move (i := 1) (v := .int .i64 (k : Int)) rfl (by simp [y6]) ?_
    refine ListK.move (i := 2) (v := .int .i64 (xn : Int)) rfl (by simp [y7]) ?_
    refine ListK.call (i := 3) (vs := #[.int .u8 82, .int .i64 (k : Int), .int .i64 (xn : Int)]) rfl (enters_of Try.func50 (by kernel_rfl) rfl) (by simp [hz_b3_]) (((made_any 82 k xn W4 (by omega) (by omega))).mono ?_)
    rintro _ W5 ⟨rfl, hb5⟩
    have hob5 := hob.below hb5
    refine ⟨_, rfl, ?_⟩
    refine ListK.bsl (i := 4) (ps := #[(0, .agg (recC (made 82 k xn)))]) (v := .slice (some ⟨W5.heap.size, 0, none⟩) 1 1) rfl (by simp [hz_b3_]) (bs108r (made_len _ _ _) W5) ?_
    refine ListK.call (i := 5) (vs := #[.slice (some ⟨W5.heap.size, 0, none⟩) 1 1]) rfl (enters_of Try.func49 (by kernel_rfl) rfl) (by simp [hz_b3_]) (((lines_any (some ⟨W5.heap.size, 0, none⟩) [made 82 k xn] 1 (oneRec W5 (made 82 k xn)) (by simp) (oneRec_at (made_len _ _ _) W5))).mono ?_)
    rintro _ W6 ⟨v38, rfl, ho38⟩
    obtain ⟨A38, c38, rfl, _, hy38⟩ := ho38.bytes
    have hob6 := (hob5.below (oneRec_low W5 (made 82 k xn))).below ho38.low
    refine ⟨_, rfl, ?_⟩
    obtain ⟨v39, W7, ha39, hob7⟩ := app31_run (c := c38) (ty := 31) hob6 hy38 (by omega) (by simp [linesL, made]) (by simp [linesL, made])
    refine ListK.app31 (i := 6) rfl (by simp [hz_b3_]) (by simp [hz_b3_]) ha39 ?_
    refine ListK.assign (i := 7) (v := v39) rfl (by simp [hz_b3_]) ?_
    refine ListK.done (hK _ _ ?_)
    clear hK K
    generalize hA : Act.put _ _ _ = b4
    have hz_b4 : b4.tmps.size = 61 := by rw [← hA]; simp only [size_put, hz_b3_]
    have d1 : b4.eval (.tmp 1) = .pointer (some ⟨b3, 0, none⟩) := by rw [← hA]; exact (by simp [y1])
    have d5 : b4.eval (.tmp 5) = v39 := by rw [← hA]; exact (by simp [hz_b3_])
    have d6 : b4.eval (.tmp 6) = .int .i64 (k : Int) := by rw [← hA]; exact (by simp [y6])
    have d26 : b4.eval (.tmp 26) = .slice (some ⟨gb, off, none⟩) s.rd.length c := by rw [← hA]; exact (by simp [y26])
    have d27 : b4.eval (.tmp 27) = .int .i64 s.rd.length := by rw [← hA]; exact (by simp [y27])
    have d28 : b4.eval (.tmp 28) = .int .i64 (k : Int) := by rw [← hA]; exact (by simp [y28])
    have hd_b4 : b4.defers = [] := by rw [← hA]; simp only [defers_put, hd_b3_]
    clear hA
    have wb7 := wb.below hob7.low wb.lt
    have hsn2 : (linesL (recsTo s k) ++ linesL [made 82 k xn]).length ≤ 8 * (2 + 2 * k) := by
      rw [List.length_append]
      have : (linesL [made 82 k xn]).length = 8 := by simp [linesL, made]
      omega
    have hcl := closes_any (s.rd.length : Int) (wd : Int) (st : Int) (k : Int)
    obtain ⟨cb, hcb⟩ : ∃ b, b = closesB s.rd.length s.width k := ⟨_, rfl⟩
    rw [← hwd, ← hcb] at hcl
    rw [← hcb] at hsn
    rw [hwd] at hcl
    cases cb with
    | true =>
      refine wpIn_seq (region_p 4 ?_)
      intro K hK
      refine ListK.load (i := 0) (p := ⟨b3, 0, none⟩) (v := .agg #[.int .i64 (wd : Int), .int .i64 (st : Int), .slice (some ⟨gb, off, none⟩) s.rd.length c]) rfl (by simp [d1]) (ld29 ⟨wb7.cell 0, wb7.cell 1, wb7.cell 2⟩) ?_
      refine ListK.call (i := 1) (vs := #[.agg #[.int .i64 (wd : Int), .int .i64 (st : Int), .slice (some ⟨gb, off, none⟩) s.rd.length c]]) rfl (enters_of Try.func45 (by kernel_rfl) rfl) (by simp [hz_b4]) (((sHead_any _ _ (some ⟨gb, off, none⟩) _ c W7)).mono ?_)
      rintro _ W8 ⟨rfl, hb8⟩
      have hob8 := hob7.below hb8
      refine ⟨_, rfl, ?_⟩
      refine ListK.move (i := 2) (v := .int .i64 (k : Int)) rfl (by simp [d6]) ?_
      refine ListK.call (i := 3) (vs := #[(headV (s.rd.length : Int) (wd : Int) (st : Int)), .int .i64 (k : Int)]) rfl (enters_of Try.func51 (by kernel_rfl) rfl) (by simp [hz_b4]) (((hcl W8 (by omega) (by omega) (by omega) (by omega) (by omega) (by omega))).mono ?_)
      rintro _ W9 ⟨rfl, hb9⟩
      have hob9 := hob8.below hb9
      refine ⟨_, rfl, ?_⟩
      refine ListK.done (hK _ _ ?_)
      clear hK K
      refine wpIn_cond (t := true) (by simp [hz_b4]) ?_
      generalize hA : Act.put _ _ _ = b5
      have hz_b5 : b5.tmps.size = 61 := by rw [← hA]; simp only [size_put, hz_b4]
      have e1 : b5.eval (.tmp 1) = .pointer (some ⟨b3, 0, none⟩) := by rw [← hA]; exact (by simp [d1])
      have e5 : b5.eval (.tmp 5) = v39 := by rw [← hA]; exact (by simp [d5])
      have e6 : b5.eval (.tmp 6) = .int .i64 (k : Int) := by rw [← hA]; exact (by simp [d6])
      have e26 : b5.eval (.tmp 26) = .slice (some ⟨gb, off, none⟩) s.rd.length c := by rw [← hA]; exact (by simp [d26])
      have e27 : b5.eval (.tmp 27) = .int .i64 s.rd.length := by rw [← hA]; exact (by simp [d27])
      have e28 : b5.eval (.tmp 28) = .int .i64 (k : Int) := by rw [← hA]; exact (by simp [d28])
      have hd_b5 : b5.defers = [] := by rw [← hA]; simp only [defers_put, hd_b4]
      clear hA
      refine wr_put (u6 := e6) hz_b5 hd_b5 e1 e5 wb hs hB1 hf hwd hst hkl hob9 (by omega) fun b6 W10 v2 hz_b6 hd_b6 x5 hr hob10 => ?_
      have x1 := (hr 1 (by omega) (by omega)).trans e1
      have x26 := (hr 26 (by omega) (by omega)).trans e26
      have x27 := (hr 27 (by omega) (by omega)).trans e27
      have x28 := (hr 28 (by omega) (by omega)).trans e28
      clear hr
      rw [if_pos rfl] at hsn
      rw [← hsn] at hob10
      refine region_p 2 ?_
      intro K hK
      refine ListK.bin (i := 0) (u := .int .i64 (k : Int)) (u' := .int .i64 1) (v := .int .i64 ((k + 1 : Nat) : Int)) rfl (by simp [x28]) (by simp) (add3 (by omega) (by omega) _) ?_
      refine ListK.move (i := 1) (v := .int .i64 ((k + 1 : Nat) : Int)) rfl (by simp [hz_b6]) ?_
      refine ListK.done (hK _ _ ?_)
      clear hK K
      refine ⟨⟨k + 1, v2, by omega, (by simp only [size_put, hz_b6]), (by simp only [defers_put, hd_b6]), (by simp [x1]), (by simp [x5]), (by simp [x26]), (by simp [x27]), (by simp [hz_b6]), hob10⟩, ?_⟩
      rw [r28, show (Act.put _ _ _).eval (.tmp 28) = .int .i64 ((k + 1 : Nat) : Int) from (by simp [hz_b6])]
      simp only [intOf]
      omega
    | false =>
      refine wpIn_seq (region_p 4 ?_)
      intro K hK
      refine ListK.load (i := 0) (p := ⟨b3, 0, none⟩) (v := .agg #[.int .i64 (wd : Int), .int .i64 (st : Int), .slice (some ⟨gb, off, none⟩) s.rd.length c]) rfl (by simp [d1]) (ld29 ⟨wb7.cell 0, wb7.cell 1, wb7.cell 2⟩) ?_
      refine ListK.call (i := 1) (vs := #[.agg #[.int .i64 (wd : Int), .int .i64 (st : Int), .slice (some ⟨gb, off, none⟩) s.rd.length c]]) rfl (enters_of Try.func45 (by kernel_rfl) rfl) (by simp [hz_b4]) (((sHead_any _ _ (some ⟨gb, off, none⟩) _ c W7)).mono ?_)
      rintro _ W8 ⟨rfl, hb8⟩
      have hob8 := hob7.below hb8
      refine ⟨_, rfl, ?_⟩
      refine ListK.move (i := 2) (v := .int .i64 (k : Int)) rfl (by simp [d6]) ?_
      refine ListK.call (i := 3) (vs := #[(headV (s.rd.length : Int) (wd : Int) (st : Int)), .int .i64 (k : Int)]) rfl (enters_of Try.func51 (by kernel_rfl) rfl) (by simp [hz_b4]) (((hcl W8 (by omega) (by omega) (by omega) (by omega) (by omega) (by omega))).mono ?_)
      rintro _ W9 ⟨rfl, hb9⟩
      have hob9 := hob8.below hb9
      refine ⟨_, rfl, ?_⟩
      refine ListK.done (hK _ _ ?_)
      clear hK K
      refine wpIn_cond (t := false) (by simp [hz_b4]) (wpIn_skip ?_)
      generalize hA : Act.put _ _ _ = b5
      have hz_b5 : b5.tmps.size = 61 := by rw [← hA]; simp only [size_put, hz_b4]
      have e1 : b5.eval (.tmp 1) = .pointer (some ⟨b3, 0, none⟩) := by rw [← hA]; exact (by simp [d1])
      have e5 : b5.eval (.tmp 5) = v39 := by rw [← hA]; exact (by simp [d5])
      have e6 : b5.eval (.tmp 6) = .int .i64 (k : Int) := by rw [← hA]; exact (by simp [d6])
      have e26 : b5.eval (.tmp 26) = .slice (some ⟨gb, off, none⟩) s.rd.length c := by rw [← hA]; exact (by simp [d26])
      have e27 : b5.eval (.tmp 27) = .int .i64 s.rd.length := by rw [← hA]; exact (by simp [d27])
      have e28 : b5.eval (.tmp 28) = .int .i64 (k : Int) := by rw [← hA]; exact (by simp [d28])
      have hd_b5 : b5.defers = [] := by rw [← hA]; simp only [defers_put, hd_b4]
      clear hA
      rw [if_neg (by simp), List.append_nil] at hsn
      rw [← hsn] at hob9
      refine region_p 2 ?_
      intro K hK
      refine ListK.bin (i := 0) (u := .int .i64 (k : Int)) (u' := .int .i64 1) (v := .int .i64 ((k + 1 : Nat) : Int)) rfl (by simp [e28]) (by simp) (add3 (by omega) (by omega) _) ?_
      refine ListK.move (i := 1) (v := .int .i64 ((k + 1 : Nat) : Int)) rfl (by simp [hz_b5]) ?_
      refine ListK.done (hK _ _ ?_)
      clear hK K
      refine ⟨⟨k + 1, v39, by omega, (by simp only [size_put, hz_b5]), (by simp only [defers_put, hd_b5]), (by simp [e1]), (by simp [e5]), (by simp [e26]), (by simp [e27]), (by simp [hz_b5]), hob9⟩, ?_⟩
      rw [r28, show (Act.put _ _ _).eval (.tmp 28) = .int .i64 ((k + 1 : Nat) : Int) from (by simp [hz_b5])]
      simp only [intOf]
      omega
  · skip
    obtain rfl : k = s.rd.length := by omega
    refine wpIn_seq (region_p 1 ?_)
    intro K hK
    refine ListK.bin (i := 0) (u := .int .i64 (s.rd.length : Int)) (u' := .int .i64 s.rd.length) (v := .bool false) rfl (by simp [r28]) (by simp [r27]) (lssF3 (by omega) _) ?_
    refine ListK.done (hK _ _ ?_)
    clear hK K
    refine wpIn_seq (wpIn_cond (t := false) (by simp [hz_b1]) (wpIn_exit ?_))
    generalize hA : Act.put _ _ _ = b2
    have hz_b2 : b2.tmps.size = 61 := by rw [← hA]; simp only [size_put, hz_b1]
    have s5 : b2.eval (.tmp 5) = v := by rw [← hA]; exact (by simp [r5])
    have hd_b2 : b2.defers = [] := by rw [← hA]; simp only [defers_put, hd_b1]
    clear hA
    refine wpIn_seq (region_p 3 ?_)
    intro K hK
    refine ListK.move (i := 0) (v := v) rfl (by simp [s5]) ?_
    refine ListK.assign (i := 1) (v := v) rfl (by simp [hz_b2]) ?_
    refine ListK.assign (i := 2) (v := .int .i64 0) rfl (by simp) ?_
    refine ListK.done (hK _ _ (wpIn_ret ?_))
    refine bodyPost_ret (v := .tuple #[v, .int .i64 0]) (res2 Try.results19 (by simp [hz_b2]) (by simp [hz_b2])) (by simp only [defers_put, hd_b2]) ⟨v, by rw [hf], ?_⟩
    rw [if_pos hf]
    exact hob.base hB1
set_option maxHeartbeats 400000 in
theorem write_any (s : Ser) (A : Option Addr) (c : Nat) (W : World) (hl : s.rd.length ≤ 1000000) (hs : IntsAt W W.heap.size A s.rd) :
    Calls Try.prog 19 #[serV s A c] W (WrP W s) := by
  refine (callsIn_wide (n := 5)).1 (callsIn_of_wp Try.func19 body19 trivial ?_ rfl)
  obtain ⟨a, ha⟩ : ∃ a : Act, a = { tmps := #[serV s A c] ++ Array.replicate (Try.f19.ntmps - (#[serV s A c] : Array Value).size) undef, defers := [] } := ⟨_, rfl⟩
  have hsz : a.tmps.size = 61 := by rw [ha]; simp [Try.ntmps19]
  have t0 : a.eval (.tmp 0) = serV s A c := by rw [ha]; simp [Act.eval]
  have hd_a : a.defers = [] := by rw [ha]
  rw [← ha]
  clear ha
  unfold code19
  refine wpIn_seq (region_p 3 ?_)
  intro K hK
  refine ListK.box (i := 0) (u := serV s A c) rfl (by simp [t0]) (bx29 W _ _ _ _ _) ?_
  refine ListK.assign (i := 1) (v := .slice none 0 0) rfl (by simp) ?_
  refine ListK.assign (i := 2) (v := .int .i64 0) rfl (by simp) ?_
  refine ListK.done (hK _ _ ?_)
  clear hK K
  have wb := Whole.new W 29 #[.int .i64 s.width, .int .i64 s.step, .slice A s.rd.length c]
  have hB1 : Below W.heap.size W (W.alloc (.cells #[.int .i64 s.width, .int .i64 s.step, .slice A s.rd.length c] 29)) := (Below.refl _ W).alloc (Nat.le_refl _) _
  have hS1 := hB1.size
  generalize hb3 : W.heap.size = b3 at *
  generalize W.alloc (.cells #[.int .i64 s.width, .int .i64 s.step, .slice A s.rd.length c] 29) = W1 at *
  replace hs : IntsAt W1 W1.heap.size A s.rd := (hs.below hB1 (Nat.le_refl _)).more hS1
  refine wpIn_seq (wpIn_seq (region_p 3 ?_))
  intro K hK
  refine ListK.load (i := 0) (p := ⟨b3, 0, none⟩) (v := (serV s A c)) rfl (by simp [hsz]) (ld29 ⟨wb.cell 0, wb.cell 1, wb.cell 2⟩) ?_
  refine ListK.call (i := 1) (vs := #[(serV s A c)]) rfl (enters_of Try.func17 (by kernel_rfl) rfl) (by simp [hsz]) (((check_any s A c W1 hl hs)).mono ?_)
  rintro _ W2 ⟨rfl, hb2⟩
  have hB2 := hB1.trans (hb2.mono hS1)
  have wb2 := wb.below hb2 wb.lt
  have hs2 := (hs.below hb2 (Nat.le_refl _)).more hb2.size
  refine ⟨_, rfl, ?_⟩
  refine ListK.assign (i := 2) (v := .int .i64 (faultS s)) rfl (by simp [hsz]) ?_
  refine ListK.done (hK _ _ ?_)
  clear hK K
  generalize hA : Act.put _ _ _ = a1
  have hz_a1 : a1.tmps.size = 61 := by rw [← hA]; simp only [size_put, hsz]
  have u1 : a1.eval (.tmp 1) = .pointer (some ⟨b3, 0, none⟩) := by rw [← hA]; exact (by simp [hsz])
  have u4 : a1.eval (.tmp 4) = .int .i64 (faultS s) := by rw [← hA]; exact (by simp [hsz])
  have hd_a1 : a1.defers = [] := by rw [← hA]; simp only [defers_put, hd_a]
  clear hA
  by_cases hf : faultS s = 0
  · obtain ⟨hl', hw, hst, hin, _⟩ := ser_valid hf
    obtain ⟨wd, hwd⟩ : ∃ wd : Nat, s.width = wd := ⟨s.width.toNat, by omega⟩
    obtain ⟨st, hst'⟩ : ∃ st : Nat, s.step = st := ⟨s.step.toNat, by omega⟩
    refine wpIn_seq (region_p 2 ?_)
    intro K hK
    refine ListK.move (i := 0) (v := .int .i64 (faultS s)) rfl (by simp [u4]) ?_
    refine ListK.bin (i := 1) (u := .int .i64 (faultS s)) (u' := .int .i64 0) (v := .bool false) rfl (by simp [hz_a1]) (by simp) (nqF hf _) ?_
    refine ListK.done (hK _ _ ?_)
    clear hK K
    refine wpIn_cond (t := false) (by simp [hz_a1]) (wpIn_skip ?_)
    show wr_b.wpIn _ _ _ _ _ _
    unfold wr_b
    generalize hA : Act.put _ _ _ = a2
    have hz_a2 : a2.tmps.size = 61 := by rw [← hA]; simp only [size_put, hz_a1]
    have v1 : a2.eval (.tmp 1) = .pointer (some ⟨b3, 0, none⟩) := by rw [← hA]; exact (by simp [u1])
    have hd_a2 : a2.defers = [] := by rw [← hA]; simp only [defers_put, hd_a1]
    clear hA
    rw [hwd, hst'] at wb2
    have e10 : (10 : Int) * (wd : Int) + (st : Int) = ((10 * wd + st : Nat) : Int) := by push_cast; rfl
    have e0 : recsTo s 0 = [made 72 s.rd.length (10 * wd + st)] := by
      show [made 72 s.rd.length (10 * s.width.toNat + s.step.toNat)] = _
      rw [hwd, hst']
      simp
    refine wpIn_seq (region_p 13 ?_)
    intro K hK
    refine ListK.field (i := 0) (u := .pointer (some ⟨b3, 0, none⟩)) (v := .pointer (some ⟨b3, 2, none⟩)) rfl (by simp [v1]) (fa29_2 _) ?_
    refine ListK.load (i := 1) (p := ⟨b3, 2, none⟩) (v := .slice A s.rd.length c) rfl (by simp [hz_a2]) (ld22 (wb2.cell 2)) ?_
    refine ListK.len (i := 2) (u := .slice A s.rd.length c) (v := .int .i64 s.rd.length) rfl (by simp [hz_a2]) (ln22 _ _ _ _ _) rfl ?_
    refine ListK.field (i := 3) (u := .pointer (some ⟨b3, 0, none⟩)) (v := .pointer (some ⟨b3, 0, none⟩)) rfl (by simp [v1]) (fa29_0 _) ?_
    refine ListK.load (i := 4) (p := ⟨b3, 0, none⟩) (v := .int .i64 (wd : Int)) rfl (by simp [hz_a2]) (ld3 (wb2.cell 0)) ?_
    refine ListK.bin (i := 5) (u := .int .i64 10) (u' := .int .i64 (wd : Int)) (v := .int .i64 (10 * (wd : Int))) rfl (by simp) (by simp [hz_a2]) (mul3 (by omega) (by omega) _) ?_
    refine ListK.field (i := 6) (u := .pointer (some ⟨b3, 0, none⟩)) (v := .pointer (some ⟨b3, 1, none⟩)) rfl (by simp [v1]) (fa29_1 _) ?_
    refine ListK.load (i := 7) (p := ⟨b3, 1, none⟩) (v := .int .i64 (st : Int)) rfl (by simp [hz_a2]) (ld3 (wb2.cell 1)) ?_
    refine ListK.bin (i := 8) (u := .int .i64 (10 * (wd : Int))) (u' := .int .i64 (st : Int)) (v := .int .i64 ((10 * wd + st : Nat) : Int)) rfl (by simp [hz_a2]) (by simp [hz_a2]) (by rw [← e10]; exact add3 (by omega) (by omega) _) ?_
    refine ListK.call (i := 9) (vs := #[.int .u8 72, .int .i64 s.rd.length, .int .i64 ((10 * wd + st : Nat) : Int)]) rfl (enters_of Try.func50 (by kernel_rfl) rfl) (by simp [hz_a2]) (((made_any 72 s.rd.length (10 * wd + st) W2 (by omega) (by omega))).mono ?_)
    rintro _ W3 ⟨rfl, hb3_⟩
    refine ⟨_, rfl, ?_⟩
    refine ListK.bsl (i := 10) (ps := #[(0, .agg (recC (made 72 s.rd.length (10 * wd + st))))]) (v := .slice (some ⟨W3.heap.size, 0, none⟩) 1 1) rfl (by simp [hz_a2]) (bs108r (made_len _ _ _) W3) ?_
    refine ListK.call (i := 11) (vs := #[.slice (some ⟨W3.heap.size, 0, none⟩) 1 1]) rfl (enters_of Try.func49 (by kernel_rfl) rfl) (by simp [hz_a2]) (((lines_any (some ⟨W3.heap.size, 0, none⟩) [made 72 s.rd.length (10 * wd + st)] 1 (oneRec W3 (made 72 s.rd.length (10 * wd + st))) (by simp) (oneRec_at (made_len _ _ _) W3))).mono ?_)
    rintro _ W4 ⟨v24, rfl, ho24⟩
    refine ⟨_, rfl, ?_⟩
    refine ListK.assign (i := 12) (v := v24) rfl (by simp [hz_a2]) ?_
    refine ListK.done (hK _ _ ?_)
    clear hK K
    generalize hA : Act.put _ _ _ = a3
    have hz_a3 : a3.tmps.size = 61 := by rw [← hA]; simp only [size_put, hz_a2]
    have x1 : a3.eval (.tmp 1) = .pointer (some ⟨b3, 0, none⟩) := by rw [← hA]; exact (by simp [v1])
    have x5 : a3.eval (.tmp 5) = v24 := by rw [← hA]; exact (by simp [hz_a2])
    have hd_a3 : a3.defers = [] := by rw [← hA]; simp only [defers_put, hd_a2]
    clear hA
    exact wr_loop hz_a3 hd_a3 x1 x5 wb2 hs2 (by rw [hb3]; exact hB2) hf hwd hst' (by rw [e0]; exact (ho24.base (oneRec_low W3 _)).base hb3_)
  · skip
    refine wpIn_seq (region_p 2 ?_)
    intro K hK
    refine ListK.move (i := 0) (v := .int .i64 (faultS s)) rfl (by simp [u4]) ?_
    refine ListK.bin (i := 1) (u := .int .i64 (faultS s)) (u' := .int .i64 0) (v := .bool true) rfl (by simp [hz_a1]) (by simp) (nqT hf _) ?_
    refine ListK.done (hK _ _ ?_)
    clear hK K
    refine wpIn_cond (t := true) (by simp [hz_a1]) ?_
    generalize hA : Act.put _ _ _ = a2
    have hz_a2 : a2.tmps.size = 61 := by rw [← hA]; simp only [size_put, hz_a1]
    have v4 : a2.eval (.tmp 4) = .int .i64 (faultS s) := by rw [← hA]; exact (by simp [u4])
    have hd_a2 : a2.defers = [] := by rw [← hA]; simp only [defers_put, hd_a1]
    clear hA
    refine wpIn_seq (region_p 3 ?_)
    intro K hK
    refine ListK.move (i := 0) (v := .int .i64 (faultS s)) rfl (by simp [v4]) ?_
    refine ListK.assign (i := 1) (v := .slice none 0 0) rfl (by simp) ?_
    refine ListK.assign (i := 2) (v := .int .i64 (faultS s)) rfl (by simp [hz_a2]) ?_
    refine ListK.done (hK _ _ (wpIn_ret ?_))
    refine bodyPost_ret (v := .tuple #[.slice none 0 0, .int .i64 (faultS s)]) (res2 Try.results19 (by simp [hz_a2]) (by simp [hz_a2])) (by simp only [defers_put, hd_a2]) ⟨_, rfl, ?_⟩
    rw [if_neg hf]
    exact (OB.nil W2).base (by rw [hb3]; exact hB2)
end
end Go.Proofs.YtmdlmmfbcnkanaaR
namespace Go.Proofs.YtmdlmmfbcnkanaaR
open Go.RowKit Go.Shelf
def fiveS : Ser := ⟨3, 4, [50, 52, 49, 47, 50]⟩
def ex1L : List (List UInt8) := [[72, 48, 53, 51, 52, 48, 48], [82, 48, 48, 53, 48, 56, 51], [82, 48, 49, 53, 50, 48, 50], [80, 48, 48, 53, 49, 56, 53], [82, 48, 51, 52, 55, 51, 53], [82, 48, 52, 53, 48, 48, 50], [80, 48, 49, 57, 55, 52, 56]]
def ex2L : List (List UInt8) := [[72, 48, 53, 51, 52, 48, 48], [82, 48, 48, 53, 48, 56, 51], [82, 48, 49, 53, 50, 48, 50], [82, 48, 50, 52, 57, 52, 51], [80, 48, 48, 53, 49, 56, 53], [80, 48, 49, 57, 55, 52, 56]]
def exB : List UInt8 := [72, 48, 53, 51, 52, 48, 48, 10, 82, 48, 48, 53, 48, 56, 51, 10, 82, 48, 49, 53, 50, 48, 50, 10, 82, 48, 50, 52, 57, 52, 51, 10, 80, 48, 48, 53, 49, 56, 53, 10, 82, 48, 51, 52, 55, 51, 53, 10, 82, 48, 52, 53, 48, 48, 50, 10, 80, 48, 49, 57, 55, 52, 56, 10]
theorem five_ok : faultS fiveS = 0 := by decide +kernel
theorem five_file : linesL (fileL fiveS) = exB := by decide +kernel
theorem ex1_ok : mendC (linesL ex1L) = 0 := by decide +kernel
theorem ex1_at : (readM (linesL ex1L)).map (fun p => (p.1.many, loAt p.1 p.2 2, hiAt p.1 p.2 2)) = some (5, 49, 49) := by decide +kernel
theorem ex2_ok : mendC (linesL ex2L) = 0 := by decide +kernel
theorem ex2_at : (readM (linesL ex2L)).map (fun p => (p.1.many, loAt p.1 p.2 3, hiAt p.1 p.2 3, loAt p.1 p.2 4, hiAt p.1 p.2 4)) = some (5, 47, 50, 47, 50) := by decide +kernel
theorem exB_gap : gapC exB = (0, 7) := by decide +kernel
end Go.Proofs.YtmdlmmfbcnkanaaR
