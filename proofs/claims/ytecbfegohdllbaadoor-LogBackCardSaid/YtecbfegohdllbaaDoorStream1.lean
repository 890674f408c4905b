/- Layer 46 (stream): the iterator over what is told: its contract. -/
import Derived.Test.YtecbfegohdllbaaDoorPackA
import Derived.Test.YtecbfegohdllbaaDoorLook
import Derived.Test.YtecbfegohdllbaaDoorFrameGet
import Derived.Test.YtecbfegohdllbaaDoorPackJ
import Derived.RangeFuncBound
import Derived.RangeFuncLeaves
import Derived.Shelf.Abstract
import Derived.OwnWalkIn
import Derived.TacticsInMore
import Derived.LoopNIn
import Derived.LoopIn
import Derived.Maps.AppendAt
namespace Go.Proofs.YtecbfegohdllbaaDoor
open Go.RowKit Go.Shelf
attribute [local go_sem] Oper.semAt_some
set_option linter.unusedVariables false
set_option linter.unusedSimpArgs false
variable {Ok : Nat → Prop}
/-- what was done to block g alone, and to what is new -/
def Turn (g : Nat) (A B : World) : Prop := A.grownBy B (some g)
theorem Turn.refl (g : Nat) (A : World) : Turn g A A := ⟨rfl, rfl, rfl, Nat.le_refl _, fun _ _ _ => rfl⟩
theorem Turn.trans {g : Nat} {A B C : World} (h : Turn g A B) (k : Turn g B C) : Turn g A C := World.grownBy.trans h k
theorem Turn.of_below {g : Nat} {A B : World} (h : Below A.heap.size A B) : Turn g A B := ⟨h.os, h.tape, h.output, h.size, fun k hk _ => h.block k hk⟩
theorem Turn.drew {g : Nat} {A B : World} (h : Turn g A B) : Turn g A B.drew := ⟨h.os, h.tape, h.output, h.size, h.block⟩
theorem Turn.set {g : Nat} {A B : World} (h : Turn g A B) (j : Nat) (v : Value) : Turn g A (B.setCell ⟨g, j, none⟩ v) :=
  ⟨h.os, h.tape, h.output, by simpa using h.size, fun k hk hne => (Below.heap_setCell _ _ _ k (by intro e; exact hne (by rw [e]))).trans (h.block k hk hne)⟩
theorem Turn.row {g k : Nat} {A B : World} {o : Obj} (h : Turn g A B) (ho : A.heap[k]? = some o) (hne : k ≠ g) : B.heap[k]? = some o := (h.block k (lt_of_row ho) (by simpa using hne)).trans ho
theorem Turn.below {g N : Nat} {A B : World} (h : Turn g A B) (hN : N ≤ A.heap.size) (hg : N ≤ g) : Below N A B := ⟨h.os, h.tape, h.output, h.size, fun k hk => h.block k (by omega) (by simp; omega)⟩
/-- a stream's state: what waits, how many bytes are lost; what waits lies below N -/
def SI (Ok : Nat → Prop) (N g : Nat) (Y : List Int) (k : Int) (W : World) : Prop :=
  ∃ (a : Option Addr) (c : Nat), W.heap[g]? = some (.cells #[.slice a Y.length c, .int .i64 k, .bool true] 112 (0, 0)) ∧ Reads .u8 W (.slice a Y.length c) Y ∧ g < N ∧ ∀ b, a = some b → b.block < N ∧ b.block ≠ g ∧ Ok b.block
theorem SI.below {N g : Nat} {Y : List Int} {k : Int} {A B : World} (h : SI Ok N g Y k A) (hb : Below N A B) : SI Ok N g Y k B := by
  obtain ⟨a, c, h1, h2, h3, h4⟩ := h
  exact ⟨a, c, (hb.block g h3).trans h1, h2.below hb (fun b e => by
    rcases a with _ | ⟨b', o, s⟩
    · cases e
    · have h5 : b' < N := (h4 _ rfl).1; simp [Value.ownBlock] at e; omega), h3, h4⟩
theorem reads_drop {W : World} {b off c j : Nat} {Y : List Int} (h : Reads .u8 W (.slice (some ⟨b, off, none⟩) Y.length c) Y) (hj : j ≤ Y.length) : Reads .u8 W (.slice (some ⟨b, off + j, none⟩) (Y.length - j) (c - j)) (Y.drop j) := by
  obtain ⟨a, c', hv, h1, h2, h3, h4, h5⟩ := h
  obtain ⟨rfl, -, rfl⟩ := Value.slice.inj hv
  refine ⟨_, _, by rw [List.length_drop], by rw [List.length_drop]; omega, by omega, fun x hx => h3 x (List.mem_of_mem_drop hx), (fun h => by cases h), fun b' hb' i hi => ?_⟩
  obtain rfl := Option.some.inj hb'
  rw [List.length_drop] at hi
  have := h5 _ rfl (j + i) (by omega)
  rw [add_plain] at this ⊢
  rw [List.getElem_drop]
  rw [show off + j + i = off + (j + i) by omega]; exact this
theorem reads_set {W : World} {v u : Value} {Y : List Int} {g j : Nat} (h : Reads .u8 W v Y) (hv : ∀ b, v.ownBlock = some b → b ≠ g) : Reads .u8 (W.setCell ⟨g, j, none⟩ u) v Y := by
  obtain ⟨a, c, rfl, h1, h2, h3, h4, h5⟩ := h
  refine ⟨a, c, rfl, h1, h2, h3, h4, fun b hb i hi => ?_⟩
  subst hb
  rw [World.cell?_of_block (Below.heap_setCell _ _ _ _ ?_)]
  · exact h5 _ rfl i hi
  · have := hv b.block (by simp [Value.ownBlock])
    unfold Addr.add; split <;> exact this
theorem si_drop {N g b off c j : Nat} {Y : List Int} {k : Int} {W : World} (h1 : W.heap[g]? = some (.cells #[.slice (some ⟨b, off, none⟩) Y.length c, .int .i64 k, .bool true] 112 (0, 0))) (h2 : Reads .u8 W (.slice (some ⟨b, off, none⟩) Y.length c) Y) (h3 : g < N) (h4 : b < N ∧ b ≠ g ∧ Ok b) (hj : j ≤ Y.length) :
    SI Ok N g (Y.drop j) k (W.setCell ⟨g, 0, none⟩ (.slice (some ⟨b, off + j, none⟩) (Y.length - j) (c - j))) := by
  refine ⟨some ⟨b, off + j, none⟩, c - j, ?_, ?_, h3, fun b' e => by obtain rfl := Option.some.inj e; exact h4⟩
  · rw [List.length_drop]; simp [World.setCell, Array.getElem?_modify, h1]
  · rw [List.length_drop]; exact reads_set (reads_drop h2 hj) (fun b' e => by have h5 := h4.2.1; simp [Value.ownBlock] at e; omega)
theorem si_some {N g b off c j m : Nat} {Y : List Int} {k : Int} {W : World} {pp : Option Addr} (h1 : W.heap[g]? = some (.cells #[.slice (some ⟨b, off, none⟩) m c, .int .i64 k, .bool true] 112 (0, 0))) (hm : m = Y.length) (h2 : Reads .u8 W (.slice (some ⟨b, off, none⟩) Y.length c) Y) (h3 : g < N) (h4 : b < N ∧ b ≠ g ∧ Ok b) (hj : j ≤ Y.length) (hpp : (if c = j then some ({ block := b, off := off } : Addr) else some { block := b, off := off + j }) = pp) :
    SI Ok N g (Y.drop j) k (W.setCell ⟨g, 0, none⟩ (.slice pp (m - j) (c - j))).drew := by
  subst hm
  by_cases hc : c = j
  · rw [if_pos hc] at hpp
    subst hpp
    have hl : Y.length = j := by
      obtain ⟨_, _, hv, r1, _⟩ := h2
      obtain ⟨-, -, rfl⟩ := Value.slice.inj hv
      omega
    have e1 : Y.drop j = [] := List.drop_eq_nil_of_le (by omega)
    rw [e1, show Y.length - j = 0 by omega, show c - j = 0 by omega]
    refine ⟨some ⟨b, off, none⟩, 0, ?_, ?_, h3, fun b' e => by obtain rfl := Option.some.inj e; exact h4⟩
    · show (W.setCell ⟨g, 0, none⟩ (.slice (some ⟨b, off, none⟩) 0 0)).heap[g]? = _
      simp [World.setCell, Array.getElem?_modify, h1]
    · exact ⟨_, 0, rfl, Nat.le_refl _, Nat.zero_le _, (fun x hx => by cases hx), (fun h => ⟨rfl, rfl⟩), fun b _ i hi => absurd hi (by simp)⟩
  · rw [if_neg hc] at hpp
    subst hpp
    have := si_drop h1 h2 h3 h4 hj
    exact this
theorem si_lost {N g : Nat} {Y : List Int} {k k' : Int} {W : World} (h : SI Ok N g Y k W) : SI Ok N g Y k' (W.setCell ⟨g, 1, none⟩ (.int .i64 k')) := by
  obtain ⟨a, c, h1, h2, h3, h4⟩ := h
  refine ⟨a, c, ?_, reads_set h2 (fun b e => ?_), h3, h4⟩
  · simp [World.setCell, Array.getElem?_modify, h1]
  · rcases a with _ | ⟨b', o, s⟩
    · cases e
    · have h5 : b' ≠ g := (h4 _ rfl).2.1; simp [Value.ownBlock] at e; omega
/-- what a round of the caller's loop keeps -/
def KpS (N Bx : Nat) (A B : World) : Prop := Below N A B ∧ ∀ o, A.heap[Bx]? = some o → B.heap[Bx]? = some o
/-- how far the look has come -/
def LK (Y : List Int) (k : Int) (pre : List (List Int)) (Yr : List Int) (kr : Int) : Prop :=
  (look Y).1 = pre ++ (look Yr).1 ∧ k + (look Y).2.1 = kr + (look Yr).2.1 ∧ (look Y).2.2 = (look Yr).2.2 ∧ 0 ≤ kr ∧ kr + Yr.length ≤ 1000000 ∧ ∀ x ∈ Yr, 0 ≤ x ∧ x ≤ 255
theorem LK.hit {Y Yr : List Int} {k kr : Int} {pre : List (List Int)} (h : LK Y k pre Yr kr) (hl : ¬ Yr.length < 32) (he : getE (Yr.take 32) = 0) : LK Y k (pre ++ [getR (Yr.take 32)]) (Yr.drop 32) kr := by
  obtain ⟨h1, h2, h3, h4, h5, h6⟩ := h
  rw [look_hit hl he] at h1 h2 h3
  exact ⟨by rw [h1]; simp, h2, h3, h4, by rw [List.length_drop]; omega, fun x hx => h6 x (List.mem_of_mem_drop hx)⟩
theorem LK.miss {Y Yr : List Int} {k kr : Int} {pre : List (List Int)} (h : LK Y k pre Yr kr) (hl : ¬ Yr.length < 32) (he : ¬ getE (Yr.take 32) = 0) : LK Y k pre (Yr.drop 1) (kr + 1) := by
  obtain ⟨h1, h2, h3, h4, h5, h6⟩ := h
  rw [look_miss hl he] at h1 h2 h3
  exact ⟨h1, by simp only [Int.natCast_add, Int.cast_ofNat_Int] at h2; omega, h3, by omega, by rw [List.length_drop]; omega, fun x hx => h6 x (List.mem_of_mem_drop hx)⟩
theorem LK.done {Y Yr : List Int} {k kr : Int} {pre : List (List Int)} (h : LK Y k pre Yr kr) (hl : Yr.length < 32) : pre = (look Y).1 ∧ (look Y).2.2 = Yr ∧ k + (look Y).2.1 = kr := by
  obtain ⟨h1, h2, h3, -⟩ := h
  rw [look_short hl] at h1 h2 h3
  exact ⟨by simpa using h1.symm, h3, by simpa using h2⟩
/-- how many bytes wait -/
def waits (g : Nat) (W : World) : Nat := match W.cell? ⟨g, 0, none⟩ with | some (.slice _ n _) => n | _ => 0
theorem waits_eq {N g : Nat} {Y : List Int} {k : Int} {W : World} (h : SI Ok N g Y k W) : waits g W = Y.length := by
  obtain ⟨a, c, h1, _⟩ := h
  simp [waits, World.cell?, h1]
set_option maxRecDepth 100000 in
set_option maxHeartbeats 2000000 in
theorem told_turns (N g Bx : Nat) (Y : List Int) (k : Int) (a0 a1 : Addr) (w0 : World) (hF : FC a0 a1 w0) (hw0 : w0.heap.size ≤ g) (hgN : g < N) (hBx : Bx ≠ g) (hk : 0 ≤ k ∧ k + Y.length ≤ 1000000) (hYb : ∀ x ∈ Y, 0 ≤ x ∧ x ≤ 255) (n : Nat) (hn : 1 ≤ n) :
    SeqTurns Fence.wide n Tryd.prog 100 #[.pointer (some ⟨Bx, 0, none⟩)] (fun x : List Int => #[.agg (rcells x)]) (Turn g) (KpS N Bx) (fun pre x => RepWf x ∧ pre.length ≤ 100000)
      (fun W => SI Ok N g Y k W ∧ W.heap[Bx]? = some (.cells #[.pointer (some ⟨g, 0, none⟩)] 58 (0, 0)) ∧ Below w0.heap.size w0 W ∧ N ≤ W.heap.size)
      (fun xs W => xs = (look Y).1 ∧ SI Ok N g (look Y).2.2 (k + (look Y).2.1) W ∧ Below w0.heap.size w0 W ∧ N ≤ W.heap.size) := by
  rintro l J W ⟨hs, hbx, hb0, hN⟩ hJ hY h0
  have HY := hid hY
  have HJ := hid hJ
  have F0 := hid hF
  have LKB := hid (show Y.length ≤ 1000000 by omega)
  have LK0 : LK Y k [] Y k := ⟨by simp, rfl, rfl, hk.1, hk.2, hYb⟩
  clear hY hF hJ hk hYb
  refine callsIn_of_wp Tryd.func100 rfl trivial ?_ rfl
  simp only [Tryd.ntmps100, List.size_toArray, List.length_cons, List.length_nil, Nat.reduceAdd, Nat.reduceSub, Array.replicate_succ, Array.replicate_zero, List.push_toArray, List.append_toArray, List.nil_append, List.cons_append]
  gi_wp2
  gi_loopw [3] (fun p wr => ∃ (pre : List (List Int)) (Yr : List Int) (kr : Int), SI Ok N g Yr kr wr ∧ wr.heap[Bx]? = some (.cells #[.pointer (some ⟨g, 0, none⟩)] 58 (0, 0)) ∧ Below w0.heap.size w0 wr ∧ N ≤ wr.heap.size ∧ J pre wr ∧ LK Y k pre Yr kr) (fun _ wr => waits g wr)
  case atStart => exact ⟨[], Y, k, hs, hbx, hb0, hN, h0, LK0⟩
  case round =>
    obtain ⟨pre, Yr, kr, hsi, hbx, hb0, hN, hJs, hlk⟩ := hrel
    have hmeas := waits_eq hsi
    obtain ⟨sa, sc, p1, p2, p3, p4⟩ := hsi
    have cb : wr.cell? ⟨Bx, 0, none⟩ = some (.pointer (some ⟨g, 0, none⟩)) := (cell_of_row wr Bx 0 _ _ _ hbx).trans rfl
    have cw := (cell_of_row wr g 0 _ _ _ p1).trans (rfl : _ = some (Value.slice sa Yr.length sc))
    by_cases hlt : Yr.length < 32
    · have hlt' : ¬ (32 : Int) ≤ Yr.length := by omega
      have dn := hlk.done hlt
      have FIN : pre = (look Y).1 ∧ SI Ok N g (look Y).2.2 (k + (look Y).2.1) wr := by
        obtain ⟨d1, d2, d3⟩ := dn
        rw [d2, d3]
        exact ⟨d1, sa, sc, p1, p2, p3, p4⟩
      replace FIN := hid FIN
      clear dn hlk p1 p2 p4 hmeas
      generalize Yr.length = m at *
      gi_wp2
      go_end0
      exact ⟨⟨_, rfl⟩, pre, ⟨FIN.out.1, FIN.out.2, hb0, hN⟩, hJs⟩
    · have hle : (32 : Int) ≤ Yr.length := by omega
      have hle' : 32 ≤ Yr.length := by omega
      obtain ⟨b, off, cc, hv, q1, q2, q3, -⟩ := p2.plain (by omega)
      obtain ⟨rfl, -, rfl⟩ := Value.slice.inj hv
      have q4 := p4 _ rfl
      have hsc : (32 : Int) ≤ sc := by omega
      have hT := p2.take 32 hle'
      have hT2 : Reads .u8 wr (.slice (some ⟨b, off, none⟩) 32 32) (Yr.take 32) := by
        obtain ⟨a, c', hv', r1, r2, r3, r4, r5⟩ := hT
        obtain ⟨rfl, r6, rfl⟩ := Value.slice.inj hv'
        exact ⟨_, _, by rw [← r6], by omega, by decide, r3, (fun h => by cases h), r5⟩
      have F1 := F0.out.later hb0
      have GT := hid (fget_any _ _ a0 a1 wr hT2 F1.1 F1.2)
      have hgb := got_wf (Yr.take 32) (fun x hx => hlk.2.2.2.2.2 x (List.mem_of_mem_take hx))
      have HG := hid hgb.1
      have HKR := hid hlk.2.2.2
      have MISS := hid (fun he => hlk.miss hlt he)
      have HIT := hid (fun he => hlk.hit hlt he)
      have GR := hid (fun (he : getE (Yr.take 32) = 0) => (show gotR (Yr.take 32) = getR (Yr.take 32) by rw [gotR, if_pos he]))
      have HW := hid hgb
      have HLT := hid hlt
      have HPL := hid (show pre.length ≤ 100000 by
        have h1 := congrArg List.length hlk.1
        have h2 := (look_count Y).1
        have h3 := LKB.out
        rw [List.length_append] at h1; omega)
      have P2 := hid p2
      clear hlk hT hT2 F1 hgb p2 p4 hv hlt
      generalize getE (Yr.take 32) = er at *
      generalize gotR (Yr.take 32) = G at *
      obtain ⟨m, hm⟩ : ∃ m, m = Yr.length := ⟨_, rfl⟩
      have HM := hid hm
      rw [← hm] at hle hle' p1 cw hmeas q1
      clear hm
      gi_wp2_with (refine ⟨trivial, ?_⟩; gi_at_call 39; refine (callsIn_wide.2 GT.out).mono ?_)
      rintro e w2 rfl hb2
      clear GT
      have h1m : (1 : Int) ≤ m := by omega
      have h1c : ¬ sc = 1 := by omega
      obtain ⟨pp, hpp⟩ : ∃ pp, (if sc = 32 then some ({ block := b, off := off } : Addr) else some { block := b, off := off + 32 }) = pp := ⟨_, rfl⟩
      by_cases he : er = 0
      · have LKH := hid (HIT.out he)
        have hGG := GR.out he
        rw [← hGG] at LKH
        subst he
        clear HIT MISS GR hGG
        gi_wp2_with (first | ((with_reducible refine at_opIn (.alloc 50) ?_); refine opIn_wide rfl (fun K hK => ?_); refine wp_alloc_rep rfl ?_; intro g7 w7 hg7 hR7 hb7; have hl7 : w2.heap.size ≤ g7 := Nat.le_of_eq hg7.symm; clear hg7; refine hK _ _ ?_) | ((with_reducible refine at_opIn (.store 50 (.tmp 3) (.tmp 18)) ?_); refine opIn_wide rfl (fun K hK => ?_); refine wp_store_rep (.tmp 3) (.tmp 18) rfl g7 w2.heap.size G zeroR HG.out rfl rfl rfl hR7 hl7 ?_; intro w8 hR8 hb8; refine hK _ _ ?_))
        have hb28 := hb7.trans (hb8.mono (Nat.le_refl _))
        have hB8 := hb2.trans (hb28.mono hb2.size)
        have hbx8 := (hB8.block _ (lt_of_row hbx)).trans hbx
        have p18 := (hB8.block _ (lt_of_row p1)).trans p1
        have P28 := hid (P2.out.later hB8)
        have cb8 : w8.cell? ⟨Bx, 0, none⟩ = some (.pointer (some ⟨g, 0, none⟩)) := (cell_of_row w8 Bx 0 _ _ _ hbx8).trans rfl
        have cw8 := (cell_of_row w8 g 0 _ _ _ p18).trans (rfl : _ = some (Value.slice (some ⟨b, off, none⟩) m sc))
        have fw8 := frozen_of_row w8 g 0 _ _ p18
        have hBl8 := lt_of_row hbx8
        have hgl8 := lt_of_row p18
        have TT8 := hid (Turn.of_below (g := g) hB8)
        have hN8 : N ≤ w8.heap.size := Nat.le_trans hN hB8.size
        have hg7 : g7 ≠ g := by have := lt_of_row p1; have := hb2.size; omega
        have BB8 := hid (hb0.trans (hB8.mono hb0.size))
        have JS8 := hid (HJ.out _ _ _ hJs TT8.out)
        have HH8 := hid hbx8
        have HP8 := hid p18
        clear hb2 hR7 hl7 hb7 hb8 hb28 hbx p1 P2 cb cw hB8 hbx8 p18 hb0
        refine wpIn_wide.2 ?_
        refine wp_region_L' (z := 8) (B := w8.heap.size) (n := 9) (l := #[false, false, false, false, false, false, false, false, false]) (by kernel_rfl) (by kernel_rfl) (by kernel_rfl) ?_
        refine wpAnyL_take (i := 0) (v := ?vh_0_1) (some 37) rfl rfl (by kernel_rfl) (by kernel_rfl) (by kernel_rfl) (fun _ _ _ h => h) (by rfl) [6, 7, 8] (by kernel_rfl) ?hvh_0_1 ?resth_0_1
        case hvh_0_1 => (intro w' hb; (have hcw := (hb.cell (p := ⟨Bx, 0, none⟩) hBl8).trans cb8; go_simp; try with_reducible rfl))
        simp only [Act.put, List.setIfInBounds_toArray, List.set_cons_zero, List.set_cons_succ]
        refine wpAnyL_take (i := 1) (v := ?vh_1_2) (some 38) rfl rfl (by kernel_rfl) (by kernel_rfl) (by kernel_rfl) (fun _ _ _ h => h) (by rfl) [2, 3, 4, 5, 6, 7, 8] (by kernel_rfl) ?hvh_1_2 ?resth_1_2
        case hvh_1_2 => (intro w' hb; (have hcw := (hb.cell (p := ⟨Bx, 0, none⟩) hBl8).trans cb8; go_simp; try with_reducible rfl))
        simp only [Act.put, List.setIfInBounds_toArray, List.set_cons_zero, List.set_cons_succ]
        refine wpAnyL_take (i := 2) (v := ?vh_2_3) (some 39) rfl rfl (by kernel_rfl) (by kernel_rfl) (by kernel_rfl) (fun _ _ _ h => h) (by rfl) [3, 4, 5, 6, 7, 8] (by kernel_rfl) ?hvh_2_3 ?resth_2_3
        case hvh_2_3 => (intro w' hb; go_simp; try with_reducible rfl)
        simp only [Act.put, List.setIfInBounds_toArray, List.set_cons_zero, List.set_cons_succ]
        refine wpAnyL_take (i := 3) (v := ?vh_3_4) (some 40) rfl rfl (by kernel_rfl) (by kernel_rfl) (by kernel_rfl) (fun _ _ _ h => h) (by rfl) [4, 5, 6, 7, 8] (by kernel_rfl) ?hvh_3_4 ?resth_3_4
        case hvh_3_4 => (intro w' hb; go_simp; try with_reducible rfl)
        simp only [Act.put, List.setIfInBounds_toArray, List.set_cons_zero, List.set_cons_succ]
        refine wpAnyL_take (i := 4) (v := ?vh_4_5) (some 41) rfl rfl (by kernel_rfl) (by kernel_rfl) (by kernel_rfl) (fun _ _ _ h => h) (by rfl) [5, 6, 7, 8] (by kernel_rfl) ?hvh_4_5 ?resth_4_5
        case hvh_4_5 => (intro w' hb; (have hcw := (hb.cell (p := ⟨g, 0, none⟩) hgl8).trans cw8; go_simp; try with_reducible rfl))
        simp only [Act.put, List.setIfInBounds_toArray, List.set_cons_zero, List.set_cons_succ]
        refine wpAnyL_take (i := 5) (v := ?vh_5_6) (some 42) rfl rfl (by kernel_rfl) (by kernel_rfl) (by kernel_rfl) (fun _ _ _ h => h) (by rfl) [6, 7, 8] (by kernel_rfl) ?hvh_5_6 ?resth_5_6
        case hvh_5_6 => (intro w' hb; go_simp; try with_reducible rfl)
        simp only [Act.put, List.setIfInBounds_toArray, List.set_cons_zero, List.set_cons_succ]
        refine wpAnyL_take (i := 6) (v := ?vh_6_7) (some 43) rfl rfl (by kernel_rfl) (by kernel_rfl) (by kernel_rfl) (fun _ _ _ h => h) (by rfl) [7, 8] (by kernel_rfl) ?hvh_6_7 ?resth_6_7
        case hvh_6_7 => (intro w' hb; go_simp; try with_reducible rfl)
        simp only [Act.put, List.setIfInBounds_toArray, List.set_cons_zero, List.set_cons_succ]
        refine wpAnyL_take (i := 7) (v := ?vh_7_8) (some 44) rfl rfl (by kernel_rfl) (by kernel_rfl) (by kernel_rfl) (fun _ _ _ h => h) (by rfl) [8] (by kernel_rfl) ?hvh_7_8 ?resth_7_8
        case hvh_7_8 => (intro w' hb; go_simp; try with_reducible rfl)
        simp only [Act.put, List.setIfInBounds_toArray, List.set_cons_zero, List.set_cons_succ]
        refine wpAnyL_alone (i := 8) rfl (by kernel_rfl) (by rfl) (fun K hK => ?_)
        go_simp
        refine hK.out _ _ (fun h => absurd rfl h) ?_
        clear hK K
        simp only [List.setIfInBounds_toArray, List.set_cons_zero, List.set_cons_succ]
        refine wpAnyL_done (by kernel_rfl) ?_ _
        have SI9 := si_some (j := 32) HP8.out HM.out P28.out p3 q4 (by have := HLT.out; omega) hpp
        have TT9 := (TT8.out.set 0 (.slice pp (m - 32) (sc - 32))).drew
        have hbx9 : ((w8.setCell ⟨g, 0, none⟩ (.slice pp (m - 32) (sc - 32))).drew).heap[Bx]? = _ := (Below.heap_setCell _ _ _ Bx (by simpa using hBx)).trans HH8.out
        have BB9 := (BB8.out.setCell (p := ⟨g, 0, none⟩) hw0 (.slice pp (m - 32) (sc - 32))).drew
        have JS9 := HJ.out _ _ _ hJs TT9
        have RB9 : RB g7 G ((w8.setCell ⟨g, 0, none⟩ (.slice pp (m - 32) (sc - 32))).drew) := (hR8.other hg7).drew
        have hN9 : N ≤ ((w8.setCell ⟨g, 0, none⟩ (.slice pp (m - 32) (sc - 32))).drew).heap.size := by simpa using hN8
        clear cb8 cw8 fw8 hBl8 hgl8 hN8 hR8 TT9
        generalize (w8.setCell ⟨g, 0, none⟩ (.slice pp (m - 32) (sc - 32))).drew = W9 at *
        obtain ⟨fn, tmps, assign, body, hy, hR⟩ := HY.out pre G W9 ⟨HW.out, HPL.out⟩ JS9
        replace hy : (Instr.yield l #[.agg (rcells G)]).run Tryd.prog W9 = _ := hy
        have HR := hid hR
        have HS9 := hid SI9
        have HB9 := hid hbx9
        have HBB9 := hid BB9
        clear hR SI9 hbx9 JS9 BB9
        gi_wp2_with (first | ((with_reducible refine at_opIn (.load 50 (.tmp 3)) ?_); refine opIn_wide rfl (fun K hK => ?_); refine wp_load_row 50 (.tmp 3) rfl g7 rfl _ _ _ _ RB9 Tryd.underlying50 rfl (by rw [rcells_size _ HG.out]; kernel_rfl) (hK _ _ ?_)))
        refine HR.out.mono ?_
        rintro e W10 ⟨rfl, hJ10, hk10⟩
        have SI10 := hid (HS9.out.below hk10.1)
        have HB10 := hid (hk10.2 _ HB9.out)
        have BB10 := hid (HBB9.out.trans (hk10.1.mono (by omega)))
        have hN10 := hid (Nat.le_trans hN9 hk10.1.size)
        clear hk10 hy HR
        gi_wp2
        go_roundw
        case rel => exact ⟨pre ++ [G], Yr.drop 32, kr, SI10.out, HB10.out, BB10.out, hN10.out, hJ10, LKH.out⟩
        case measure => rw [waits_eq SI10.out, hmeas, List.length_drop]; have := HM.out; omega
      · have LKM := hid (MISS.out he)
        have hne : (er != 0) = true := by simpa using he
        clear HIT MISS GR he hpp
        gi_wp2_with (first | ((with_reducible refine at_opIn (.alloc 50) ?_); refine opIn_wide rfl (fun K hK => ?_); refine wp_alloc_rep rfl ?_; intro g7 w7 hg7 hR7 hb7; have hl7 : w2.heap.size ≤ g7 := Nat.le_of_eq hg7.symm; clear hg7; refine hK _ _ ?_) | ((with_reducible refine at_opIn (.store 50 (.tmp 3) (.tmp 18)) ?_); refine opIn_wide rfl (fun K hK => ?_); refine wp_store_rep (.tmp 3) (.tmp 18) rfl g7 w2.heap.size G zeroR HG.out rfl rfl rfl hR7 hl7 ?_; intro w8 hR8 hb8; refine hK _ _ ?_))
        have hb28 := hb7.trans (hb8.mono (Nat.le_refl _))
        have hB8 := hb2.trans (hb28.mono hb2.size)
        have hbx8 := (hB8.block _ (lt_of_row hbx)).trans hbx
        have p18 := (hB8.block _ (lt_of_row p1)).trans p1
        have P28 := hid (P2.out.later hB8)
        have cb8 : w8.cell? ⟨Bx, 0, none⟩ = some (.pointer (some ⟨g, 0, none⟩)) := (cell_of_row w8 Bx 0 _ _ _ hbx8).trans rfl
        have cw8 := (cell_of_row w8 g 0 _ _ _ p18).trans (rfl : _ = some (Value.slice (some ⟨b, off, none⟩) m sc))
        have fw8 := frozen_of_row w8 g 0 _ _ p18
        have hBl8 := lt_of_row hbx8
        have hgl8 := lt_of_row p18
        have TT8 := hid (Turn.of_below (g := g) hB8)
        have hN8 : N ≤ w8.heap.size := Nat.le_trans hN hB8.size
        have hg7 : g7 ≠ g := by have := lt_of_row p1; have := hb2.size; omega
        have BB8 := hid (hb0.trans (hB8.mono hb0.size))
        have JS8 := hid (HJ.out _ _ _ hJs TT8.out)
        have HH8 := hid hbx8
        have HP8 := hid p18
        clear hb2 hR7 hl7 hb7 hb8 hb28 hbx p1 P2 cb cw hB8 hbx8 p18 hb0
        refine wpIn_wide.2 ?_
        refine wp_region_L' (z := 8) (B := w8.heap.size) (n := 9) (l := #[false, false, false, false, false, false, false, false, false]) (by kernel_rfl) (by kernel_rfl) (by kernel_rfl) ?_
        refine wpAnyL_take (i := 0) (v := ?vm_0_1) (some 22) rfl rfl (by kernel_rfl) (by kernel_rfl) (by kernel_rfl) (fun _ _ _ h => h) (by rfl) [6, 7, 8] (by kernel_rfl) ?hvm_0_1 ?restm_0_1
        case hvm_0_1 => (intro w' hb; (have hcw := (hb.cell (p := ⟨Bx, 0, none⟩) hBl8).trans cb8; go_simp; try with_reducible rfl))
        simp only [Act.put, List.setIfInBounds_toArray, List.set_cons_zero, List.set_cons_succ]
        refine wpAnyL_take (i := 1) (v := ?vm_1_2) (some 23) rfl rfl (by kernel_rfl) (by kernel_rfl) (by kernel_rfl) (fun _ _ _ h => h) (by rfl) [2, 3, 4, 5, 6, 7, 8] (by kernel_rfl) ?hvm_1_2 ?restm_1_2
        case hvm_1_2 => (intro w' hb; (have hcw := (hb.cell (p := ⟨Bx, 0, none⟩) hBl8).trans cb8; go_simp; try with_reducible rfl))
        simp only [Act.put, List.setIfInBounds_toArray, List.set_cons_zero, List.set_cons_succ]
        refine wpAnyL_take (i := 2) (v := ?vm_2_3) (some 24) rfl rfl (by kernel_rfl) (by kernel_rfl) (by kernel_rfl) (fun _ _ _ h => h) (by rfl) [3, 4, 5, 6, 7, 8] (by kernel_rfl) ?hvm_2_3 ?restm_2_3
        case hvm_2_3 => (intro w' hb; go_simp; try with_reducible rfl)
        simp only [Act.put, List.setIfInBounds_toArray, List.set_cons_zero, List.set_cons_succ]
        refine wpAnyL_take (i := 3) (v := ?vm_3_4) (some 25) rfl rfl (by kernel_rfl) (by kernel_rfl) (by kernel_rfl) (fun _ _ _ h => h) (by rfl) [4, 5, 6, 7, 8] (by kernel_rfl) ?hvm_3_4 ?restm_3_4
        case hvm_3_4 => (intro w' hb; go_simp; try with_reducible rfl)
        simp only [Act.put, List.setIfInBounds_toArray, List.set_cons_zero, List.set_cons_succ]
        refine wpAnyL_take (i := 4) (v := ?vm_4_5) (some 26) rfl rfl (by kernel_rfl) (by kernel_rfl) (by kernel_rfl) (fun _ _ _ h => h) (by rfl) [5, 6, 7, 8] (by kernel_rfl) ?hvm_4_5 ?restm_4_5
        case hvm_4_5 => (intro w' hb; (have hcw := (hb.cell (p := ⟨g, 0, none⟩) hgl8).trans cw8; go_simp; try with_reducible rfl))
        simp only [Act.put, List.setIfInBounds_toArray, List.set_cons_zero, List.set_cons_succ]
        refine wpAnyL_take (i := 5) (v := ?vm_5_6) (some 27) rfl rfl (by kernel_rfl) (by kernel_rfl) (by kernel_rfl) (fun _ _ _ h => h) (by rfl) [6, 7, 8] (by kernel_rfl) ?hvm_5_6 ?restm_5_6
        case hvm_5_6 => (intro w' hb; go_simp; try with_reducible rfl)
        simp only [Act.put, List.setIfInBounds_toArray, List.set_cons_zero, List.set_cons_succ]
        refine wpAnyL_take (i := 6) (v := ?vm_6_7) (some 28) rfl rfl (by kernel_rfl) (by kernel_rfl) (by kernel_rfl) (fun _ _ _ h => h) (by rfl) [7, 8] (by kernel_rfl) ?hvm_6_7 ?restm_6_7
        case hvm_6_7 => (intro w' hb; go_simp; try with_reducible rfl)
        simp only [Act.put, List.setIfInBounds_toArray, List.set_cons_zero, List.set_cons_succ]
        refine wpAnyL_take (i := 7) (v := ?vm_7_8) (some 29) rfl rfl (by kernel_rfl) (by kernel_rfl) (by kernel_rfl) (fun _ _ _ h => h) (by rfl) [8] (by kernel_rfl) ?hvm_7_8 ?restm_7_8
        case hvm_7_8 => (intro w' hb; go_simp; try with_reducible rfl)
        simp only [Act.put, List.setIfInBounds_toArray, List.set_cons_zero, List.set_cons_succ]
        refine wpAnyL_alone (i := 8) rfl (by kernel_rfl) (by rfl) (fun K hK => ?_)
        go_simp
        refine hK.out _ _ (fun h => absurd rfl h) ?_
        clear hK K
        simp only [List.setIfInBounds_toArray, List.set_cons_zero, List.set_cons_succ]
        refine wpAnyL_done (by kernel_rfl) ?_ _
        have SI9 := si_some (j := 1) HP8.out HM.out P28.out p3 q4 (by have := HLT.out; omega) (if_neg h1c)
        have TT9 := (TT8.out.set 0 (.slice (some ⟨b, off + 1, none⟩) (m - 1) (sc - 1))).drew
        have hbx9 : ((w8.setCell ⟨g, 0, none⟩ (.slice (some ⟨b, off + 1, none⟩) (m - 1) (sc - 1))).drew).heap[Bx]? = _ := (Below.heap_setCell _ _ _ Bx (by simpa using hBx)).trans HH8.out
        have BB9 := (BB8.out.setCell (p := ⟨g, 0, none⟩) hw0 (.slice (some ⟨b, off + 1, none⟩) (m - 1) (sc - 1))).drew
        have JS9 := HJ.out _ _ _ hJs TT9
        have RB9 : RB g7 G ((w8.setCell ⟨g, 0, none⟩ (.slice (some ⟨b, off + 1, none⟩) (m - 1) (sc - 1))).drew) := (hR8.other hg7).drew
        have hN9 : N ≤ ((w8.setCell ⟨g, 0, none⟩ (.slice (some ⟨b, off + 1, none⟩) (m - 1) (sc - 1))).drew).heap.size := by simpa using hN8
        clear cb8 cw8 fw8 hBl8 hgl8 hN8 hR8 TT9
        generalize (w8.setCell ⟨g, 0, none⟩ (.slice (some ⟨b, off + 1, none⟩) (m - 1) (sc - 1))).drew = W9 at *
        have SI9' := SI9
        obtain ⟨sa9, sc9, s1, -, -, -⟩ := SI9'
        have cb9 : W9.cell? ⟨Bx, 0, none⟩ = some (.pointer (some ⟨g, 0, none⟩)) := (cell_of_row W9 Bx 0 _ _ _ hbx9).trans rfl
        have cl9 : W9.cell? ⟨g, 1, none⟩ = some (.int .i64 kr) := (cell_of_row W9 g 1 _ _ _ s1).trans rfl
        have fl9 := frozen_of_row W9 g 1 _ _ s1
        have hk0 : 0 ≤ kr := HKR.out.1
        have hk1 : kr ≤ 1000000 := by have := HKR.out.2.1; omega
        have SI10 := hid (si_lost (k' := kr + 1) SI9)
        have JS10 := hid (HJ.out _ _ _ JS9 ((Turn.refl g W9).set 1 (.int .i64 (kr + 1))))
        have HB9 := hid hbx9
        have BB10 := hid BB9
        clear SI9 s1 hbx9 RB9 JS9 BB9
        gi_wp2
        go_roundw
        case rel => exact ⟨pre, Yr.drop 1, kr + 1, SI10.out, (Below.heap_setCell _ _ _ Bx (by simpa using hBx)).trans HB9.out, BB10.out.setCell (p := ⟨g, 1, none⟩) hw0 _, by simpa using hN9, JS10.out, LKM.out⟩
        case measure => rw [waits_eq SI10.out, hmeas, List.length_drop]; have := HM.out; omega
end Go.Proofs.YtecbfegohdllbaaDoor
