/- Texts of this proof, merged: ShortNum StreamReps Log1 Log2 Log3 Log4 Log5 Log6. -/
import Derived.Test.YtecbfegohdllbaaDoorPackH
import Derived.Test.YtecbfegohdllbaaDoorFlat
import Derived.Deep.Slices
import Derived.Lib.AppendZeros
import Derived.Laws.CopyRow
section
/- Layer 47 (log): short numbers. -/
namespace Go.Proofs.YtecbfegohdllbaaDoor
open Go.RowKit
set_option linter.unusedVariables false
set_option linter.unusedSimpArgs false
/-- a number's short form -/
def shortL (z : Nat) : List Int := if h : z < 128 then [(z : Int)] else (128 + z % 128 : Nat) :: shortL (z / 128)
termination_by z
decreasing_by omega
theorem shortL_lt {z : Nat} (h : z < 128) : shortL z = [(z : Int)] := by rw [shortL, dif_pos h]
theorem shortL_ge {z : Nat} (h : ¬ z < 128) : shortL z = ((128 + z % 128 : Nat) : Int) :: shortL (z / 128) := by rw [shortL, dif_neg h]
theorem wf_u8 {x : Int} (h : 0 ≤ x ∧ x ≤ 255) : (Lit.int .u8 x).wf = true := by
  obtain ⟨n, rfl⟩ : ∃ n : Nat, x = n := ⟨x.toNat, by omega⟩
  have : n < 256 := by omega
  have hh : ∀ m : Fin 256, (Lit.int .u8 (m.val : Int)).wf = true := by decide +kernel
  exact hh ⟨n, this⟩
theorem shortL_wf (z : Nat) : ∀ x ∈ shortL z, (Lit.int .u8 x).wf = true := by
  induction z using Nat.strongRecOn with
  | ind z ih =>
    by_cases h : z < 128
    · rw [shortL_lt h]; intro x hx; simp at hx; subst hx; exact wf_u8 (by omega)
    · rw [shortL_ge h]
      intro x hx
      rcases List.mem_cons.1 hx with rfl | hx
      · exact wf_u8 (by omega)
      · exact ih _ (by omega) x hx
theorem shortL_len : ∀ (k z : Nat), z < 128 ^ (k + 1) → (shortL z).length ≤ k + 1
  | 0, z, h => by rw [shortL_lt (by simpa using h)]; simp
  | k + 1, z, h => by
    by_cases h1 : z < 128
    · rw [shortL_lt h1]; simp
    · rw [shortL_ge h1, List.length_cons]
      have := shortL_len k (z / 128) (by rw [Nat.div_lt_iff_lt_mul (by decide)]; rw [Nat.pow_succ] at h; exact h)
      omega
/-- a word as a number that is not negative -/
def zig (x : Int) : Nat := if x < 0 then (-2 * x - 1).toNat else (2 * x).toNat
theorem nat_not32 (a : Nat) (h : a < 4294967296) : a ^^^ 4294967295 = 4294967295 - a := by
  have h1 := congrArg BitVec.toNat (BitVec.xor_allOnes (x := BitVec.ofNat 32 a))
  rw [BitVec.toNat_xor, BitVec.toNat_not, BitVec.toNat_ofNat, BitVec.toNat_allOnes, Nat.mod_eq_of_lt (by simpa using h)] at h1
  simpa using h1
theorem zig_eq (x : Int) (h1 : -2147483648 ≤ x) (h2 : x ≤ 2147483647) : bits .xor .u32 (x % 4294967296 * 2 % 4294967296) (x / 2147483648 % 4294967296) = (zig x : Int) ∧ zig x < 4294967296 := by
  by_cases h : x < 0
  · have e1 : x / 2147483648 % 4294967296 = ((4294967295 : Nat) : Int) := by omega
    have e2 : x % 4294967296 * 2 % 4294967296 = (((2 * x + 4294967296).toNat : Nat) : Int) := by omega
    rw [e1, e2, u32_xor_nat _ _ (by omega) (by decide), nat_not32 _ (by omega)]
    unfold zig
    rw [if_pos h]
    omega
  · have e1 : x / 2147483648 % 4294967296 = ((0 : Nat) : Int) := by omega
    have e2 : x % 4294967296 * 2 % 4294967296 = (((2 * x).toNat : Nat) : Int) := by omega
    rw [e1, e2, u32_xor_nat _ _ (by omega) (by decide), Nat.xor_zero]
    unfold zig
    rw [if_neg h]
    omega
theorem or128 (z : Nat) : bits .or .u8 128 ((z : Int) % 256) = ((128 + z % 128 : Nat) : Int) := by
  have e : ((z : Int) % 256) = ((z % 256 : Nat) : Int) := by omega
  have h := u8_or_nat 128 (z % 256) (by decide) (by omega)
  rw [e]
  have hh : ∀ m : Fin 256, (128 ||| m.val) = 128 + m.val % 128 := by decide +kernel
  have h3 := hh ⟨z % 256, by omega⟩
  simp only [] at h3
  rw [show (128 : Int) = ((128 : Nat) : Int) from rfl, h, h3]
  omega
theorem grown_via {A B C : World} {r : Option Nat} {v : Value} (h : A.grownBy B r) (k : B.grownBy C v.ownBlock) (hl : v.ownBlock = r ∨ ∃ j, v.ownBlock = some j ∧ A.heap.size ≤ j) : A.grownBy C r := by
  rcases hl with e | ⟨j, e, hj⟩
  · rw [e] at k; exact World.grownBy.trans h k
  · refine ⟨k.os.trans h.os, k.tape.trans h.tape, k.output.trans h.output, Nat.le_trans h.size k.size, fun i hi hne => (k.block i (Nat.lt_of_lt_of_le hi h.size) ?_).trans (h.block i hi hne)⟩
    rw [e]
    first | (intro e2; have := Option.some.inj e2; omega)
set_option maxRecDepth 100000 in
set_option maxHeartbeats 1000000 in
theorem short_any (M n : Nat) (v : Value) (xs : List Value) (x : Int) (w : World) (hx : -2147483648 ≤ x ∧ x ≤ 2147483647) (hown : w.ownsRow M 5 1 v n xs) (hn : n ≤ 1000000) (hM : M ≤ w.heap.size) :
    Calls Tryd.prog 84 #[v, .int .i32 x] w fun e w' => ∃ u, e = .returned u ∧ w'.ownsRow M 5 1 u (n + (shortL (zig x)).length) (xs ++ (shortL (zig x)).map (Value.int .u8)) ∧ w.grownBy w' v.ownBlock ∧ (u.ownBlock = v.ownBlock ∨ ∃ j, u.ownBlock = some j ∧ w.heap.size ≤ j) := by
  obtain ⟨i0, hi, hz0, hz1, hz2⟩ := info_parts Tryd.infoU8
  obtain ⟨x1, x2⟩ := hx
  have HO := hid hown
  have HN := hid hn
  have HMM := hid hM
  have HZ := hid (zig_eq x x1 x2).1
  have HZB := hid (zig_eq x x1 x2).2
  have HSL := hid (shortL_len 4 (zig x) (by have := (zig_eq x x1 x2).2; omega))
  clear hown hn hM
  go_enter Tryd.func84, Tryd.ntmps84
  go_wp2_with fail
  rw [HZ.out]
  obtain ⟨z0, hzz⟩ : ∃ z0, zig x = z0 := ⟨_, rfl⟩
  rw [hzz] at HZ HZB HSL ⊢
  have HZZ := hid hzz
  clear hzz
  go_loopw [0, 5] (fun b t wr => ∃ (z : Nat) (pre : List Int), t = .int .u32 z ∧ z < 4294967296 ∧ shortL z0 = pre ++ shortL z ∧ wr.ownsRow M 5 1 b (n + pre.length) (xs ++ pre.map (Value.int .u8)) ∧ w.grownBy wr v.ownBlock ∧ (b.ownBlock = v.ownBlock ∨ ∃ j, b.ownBlock = some j ∧ w.heap.size ≤ j)) (fun _ t _ => (intOf t).toNat)
  case atStart => exact ⟨z0, [], rfl, HZB.out, rfl, by simpa using HO.out, grownBy_refl _ _, .inl rfl⟩
  case round =>
    obtain ⟨z, pre, rfl, hz, hsp, hown, hg, hl⟩ := hrel
    have HOW := hid hown
    have HSP := hid hsp
    have HG := hid hg
    have HL := hid hl
    have HSZ := hid hg.size
    have hpl : pre.length ≤ 5 := by have := congrArg List.length hsp; have := HSL.out; rw [List.length_append] at *; omega
    have HPL := hid hpl
    clear hown hsp hg hl hpl
    by_cases h : z < 128
    · have h' : (z : Int) ≤ 127 := by omega
      have hm : (z : Int) % 256 = z := by omega
      have HSP' := hid (show shortL z0 = pre ++ [(z : Int)] by rw [HSP.out, shortL_lt h])
      go_wp2_with (at_builtin; refine wpList_append_own_at _ rfl _ _ 22 rfl M 5 i0 (.int .u8 0) 1 1 Tryd.underlying22 hi hz0 hz1 hz2 rfl (by decide) _ _ _ rfl (HOW.out.alloc _) ⟨wr.heap.size, 0, none⟩ 1 1 [.int .u8 (z : Int)] rfl rfl (cell_one_new wr _ _) ?c4 ?c5 ?c6 ?c7 ?_)
      case c4 => first | rfl | (intro u hu; simp at hu; subst hu; rfl)
      case c5 => (have := HPL.out; have := HN.out; simp [maxLen]; omega)
      case c6 => (have := HPL.out; have := HN.out; omega)
      case c7 => (have := HMM.out; have := HSZ.out; first | omega | (simp; omega))
      intro v5 w5 hown5 hg5 _ hl5
      have hgA : wr.grownBy w5 u0.ownBlock := by refine World.grownBy.trans ?_ hg5; exact ⟨rfl, rfl, rfl, by simp, fun k hk _ => heap_alloc_old wr _ hk⟩
      have HG5 := hid (grown_via HG.out hgA HL.out)
      have HL5 := hid (show v5.ownBlock = v.ownBlock ∨ ∃ j, v5.ownBlock = some j ∧ w.heap.size ≤ j by
        rcases hl5 with e | e
        · rw [e]; exact HL.out
        · exact .inr ⟨_, e, by have := HSZ.out; omega⟩)
      have HOW5 := hid (show w5.ownsRow M 5 1 v5 (n + (shortL z0).length) (xs ++ (shortL z0).map (Value.int .u8)) by
        rw [HSP'.out, List.length_append, List.map_append]
        simpa [Nat.add_assoc] using hown5)
      clear hown5 hg5 hl5 hgA
      go_wp2
      go_ret
      exact ⟨_, rfl, by rw [HZZ.out]; exact HOW5.out, HG5.out, HL5.out⟩
    · have h' : ¬ (z : Int) ≤ 127 := by omega
      go_wp2_with (at_builtin; refine wpList_append_own_at _ rfl _ _ 22 rfl M 5 i0 (.int .u8 0) 1 1 Tryd.underlying22 hi hz0 hz1 hz2 rfl (by decide) _ _ _ rfl (HOW.out.alloc _) ⟨wr.heap.size, 0, none⟩ 1 1 [.int .u8 (bits .or .u8 128 ((z : Int) % 256))] rfl rfl (cell_one_new wr _ _) ?c4 ?c5 ?c6 ?c7 ?_)
      case c4 => first | rfl | (intro u hu; simp at hu; subst hu; rfl)
      case c5 => (have := HPL.out; have := HN.out; simp [maxLen]; omega)
      case c6 => (have := HPL.out; have := HN.out; omega)
      case c7 => (have := HMM.out; have := HSZ.out; first | omega | (simp; omega))
      intro v5 w5 hown5 hg5 _ hl5
      have hgA : wr.grownBy w5 u0.ownBlock := by refine World.grownBy.trans ?_ hg5; exact ⟨rfl, rfl, rfl, by simp, fun k hk _ => heap_alloc_old wr _ hk⟩
      have HG5 := hid (grown_via HG.out hgA HL.out)
      have HL5 := hid (show v5.ownBlock = v.ownBlock ∨ ∃ j, v5.ownBlock = some j ∧ w.heap.size ≤ j by
        rcases hl5 with e | e
        · rw [e]; exact HL.out
        · exact .inr ⟨_, e, by have := HSZ.out; omega⟩)
      rw [or128] at hown5
      have HOW5 := hid (show w5.ownsRow M 5 1 v5 (n + (pre ++ [((128 + z % 128 : Nat) : Int)]).length) (xs ++ (pre ++ [((128 + z % 128 : Nat) : Int)]).map (Value.int .u8)) by
        rw [List.length_append, List.map_append]
        simpa [Nat.add_assoc] using hown5)
      have HSP5 := hid (show shortL z0 = (pre ++ [((128 + z % 128 : Nat) : Int)]) ++ shortL (z / 128) by
        rw [HSP.out, shortL_ge h]; simp)
      clear hown5 hg5 hl5 hgA
      go_wp2_with fail
      go_roundw
      case rel => exact ⟨z / 128, pre ++ [((128 + z % 128 : Nat) : Int)], by go_num, by omega, HSP5.out, HOW5.out, HG5.out, HL5.out⟩
      case measure => simp [intOf]; omega
end Go.Proofs.YtecbfegohdllbaaDoor
end
section
/- Layer 46 (stream): reports as a parameter; the load of one of them. -/
namespace Go.Proofs.YtecbfegohdllbaaDoor
open Go.RowKit Go.ChangeShapes Go.WideShapes Go.Deep
set_option linter.unusedVariables false
set_option linter.unusedSimpArgs false
theorem open_reps {H : Type} {enc : TypeId × Value → H} {w : World} {base : Nat} {held : Bool} {fuel : Nat} {a : Option Addr} {len cap : Nat} {x : DataW H × List MemPlace}
    (h : DataW.trod enc Tryd.prog w base (fun _ => true) held fuel 60 (Value.slice a len cap).cells.toList = some x) : ∃ l, RRow w (.slice a len cap) l ∧ ∀ Z ∈ l, RepWf Z := by
  rcases open_slice Tryd.underlying60 h with ⟨hcs, -⟩ | ⟨a', len', cap', m, n, D, Pl, hcs, -, hl, hm, hmm, -, hx⟩
  · simp [Value.cells] at hcs
    obtain ⟨rfl, rfl, rfl⟩ := hcs
    exact ⟨[], ⟨none, 0, rfl, Nat.le_refl _, fun _ => rfl, fun b e => by cases e⟩, fun Z hZ => by cases hZ⟩
  · simp [Value.cells] at hcs
    obtain ⟨rfl, rfl, rfl⟩ := hcs
    simp only [if_true] at hmm
    subst hmm
    have hc : Tryd.prog.cellsOf 50 = 11 := by kernel_rfl
    have each : ∀ i, i < m → ∃ Z : List Int, RepWf Z ∧ ∀ (j : Nat) (x : Value), (rcells Z).toList[j]? = some x → w.cell? (a'.add (11 * i + j)) = some x := by
      intro i hi
      obtain ⟨cs, h1, h2⟩ := hx i hi
      rw [hc] at h1
      obtain ⟨-, hlen, hcell⟩ := World.cells?_some h1
      obtain ⟨Z, z1, z2, z3⟩ := flat_cells (n := 5) (N := 11) (ks := rkinds) (by kernel_rfl) h2 hlen
      refine ⟨Z, ⟨z1, z3⟩, fun j x hj => ?_⟩
      have hj' : cs[j]? = some x := by rw [z2]; simpa [rcells] using hj
      have hjl : j < 11 := by rw [← hlen]; exact (List.getElem?_eq_some_iff.1 hj').1
      have := hcell j hjl
      rw [add_add, Nat.mul_comm i 11] at this
      rw [this, hj']
    obtain ⟨f, hf⟩ := choose_lt each
    refine ⟨(List.range len).map f, ⟨some a', m, by simp, by simpa using hl, (fun e => by cases e), fun b e i Z hi j x hj => ?_⟩, fun Z hZ => ?_⟩
    · obtain rfl := Option.some.inj e
      obtain ⟨hr, hZ⟩ : i < len ∧ f i = Z := by
        rw [List.getElem?_map] at hi
        obtain ⟨r, hr, hB⟩ := Option.map_eq_some_iff.1 hi
        obtain ⟨h1, h2⟩ := List.getElem?_eq_some_iff.1 hr
        simp at h1 h2
        subst h2
        exact ⟨h1, hB⟩
      subst hZ
      exact (hf i (by omega)).2 j x hj
    · obtain ⟨i, hi, rfl⟩ := List.mem_map.1 hZ
      exact (hf i (by have := List.mem_range.1 hi; omega)).1
theorem wpR_load_part {Q : Exit → Act → World → Prop} {ops : Array Oper} {rest : List Oper} {o : Oper} {a : Act} {w : World} (hg : Region.wanted o (yielded ops a.tmps) = true) (x : Operand) (ho : o.op = .load 50 x)
    (p : Addr) (hx : a.eval x = .pointer (some p)) (Z : List Int) (hZ : Z.length = 11) (hc : ∀ (j : Nat) (v : Value), (rcells Z).toList[j]? = some v → w.cell? (p.add j) = some v)
    (h : wpList Tryd.prog ops Q rest (a.put o.dst (.agg (rcells Z))) w) : wpList Tryd.prog ops Q (o :: rest) a w := by
  refine wpList_unguard hg (wpList_plain rfl fun K hK => ?_)
  have hrun := exec_load_part (o := { o with guard := none }) (ρ := a.eval) (w := w) x ho p hx Z hZ hc
  unfold Oper.wp
  rw [hrun]
  exact hK _ _ h
end Go.Proofs.YtecbfegohdllbaaDoor
end
section
/- Layer 47 (log): a log's state; New, live: contracts. -/
namespace Go.Proofs.YtecbfegohdllbaaDoor
open Go.RowKit
set_option linter.unusedVariables false
set_option linter.unusedSimpArgs false
/-- what a ring has, the oldest first -/
def ringL (R : List (List Int)) (f : Nat) : List (List Int) := R.drop f ++ R.take f
/-- a log's state: its room, its ring (a row of its own, base M), where the oldest stands -/
def LG (M g : Nat) (room : Nat) (ring : Value) (R : List (List Int)) (f : Nat) (W : World) : Prop :=
  W.heap[g]? = some (.cells #[.int .i64 room, ring, .int .i64 f] 117 (0, 0)) ∧ Rows' M W ring R ∧ g < M ∧ M ≤ W.heap.size ∧ (∀ Z ∈ R, RepWf Z ∧ RightL Z) ∧ 1 ≤ room ∧ room ≤ 1000 ∧ R.length ≤ room ∧ (R.length < room → f = 0) ∧ f < room
theorem LG.below {M g room f : Nat} {ring : Value} {R : List (List Int)} {A B : World} (h : LG M g room ring R f A) (hb : Below A.heap.size A B) : LG M g room ring R f B := by
  obtain ⟨h1, h2, h3, h4, h5⟩ := h
  exact ⟨(hb.block g (lt_of_row h1)).trans h1, ownsRow_below h2 hb, h3, Nat.le_trans h4 hb.size, h5⟩
theorem lnew_any (room : Int) (w : World) (hr : 1 ≤ room ∧ room ≤ 1000) : Calls Tryd.prog 50 #[.int .i64 room] w fun e w' => e = .returned (.tuple #[.pointer (some ⟨w.heap.size, 0, none⟩), .int .i64 0]) ∧ LG w'.heap.size w.heap.size room.toNat (.slice none 0 0) [] 0 w' ∧ Below w.heap.size w w' := by
  obtain ⟨n, rfl⟩ : ∃ n : Nat, room = n := ⟨room.toNat, by omega⟩
  obtain ⟨h1, h2⟩ := hr
  go_enter Tryd.func50, Tryd.ntmps50
  go_wp2
  go_ret2
  exact ⟨rfl, ⟨heap_alloc_new w _, World.ownsRow_nil _ _ _ _, by simp, Nat.le_refl _, (fun Z hZ => by cases hZ), by simp; omega, by simp; omega, by simp, (fun _ => rfl), by simp; omega⟩, (Below.refl _ w).alloc (Nat.le_refl _) _⟩
theorem lnew_bad (room : Int) (w : World) (hr : room < 1 ∨ 1000 < room) : Calls Tryd.prog 50 #[.int .i64 room] w fun e w' => e = .returned (.tuple #[.pointer none, .int .i64 2]) ∧ w = w' := by
  go_enter Tryd.func50, Tryd.ntmps50
  by_cases h : room < 1
  · go_wp2
    go_ret2
    exact ⟨rfl, rfl⟩
  · have h2 : 1000 < room := by omega
    have h3 : ¬ room < 1 := h
    clear hr
    go_wp2
    go_ret2
    exact ⟨rfl, rfl⟩
theorem live_row (g : Nat) (room : Int) (x y : Value) (w : World) (hr : 0 < room) (h : w.heap[g]? = some (.cells #[.int .i64 room, x, y] 117 (0, 0))) : Calls Tryd.prog 81 #[.pointer (some ⟨g, 0, none⟩)] w fun e w' => e = .returned (.bool true) ∧ w = w' := by
  have c0 := (cell_of_row w g 0 _ _ _ h).trans (rfl : _ = some (Value.int .i64 room))
  clear h
  go_enter Tryd.func81, Tryd.ntmps81
  go_wp2
  go_ret
  exact ⟨rfl, rfl⟩
theorem live_odd (g : Nat) (x y : Value) (w : World) (h : w.heap[g]? = some (.cells #[.int .i64 0, x, y] 117 (0, 0))) : Calls Tryd.prog 81 #[.pointer (some ⟨g, 0, none⟩)] w fun e w' => e = .returned (.bool false) ∧ w = w' := by
  have c0 := (cell_of_row w g 0 _ _ _ h).trans (rfl : _ = some (Value.int .i64 0))
  clear h
  go_enter Tryd.func81, Tryd.ntmps81
  go_wp2
  go_ret
  exact ⟨rfl, rfl⟩
theorem live_nil (w : World) : Calls Tryd.prog 81 #[.pointer none] w fun e w' => e = .returned (.bool false) ∧ w = w' := by
  go_enter Tryd.func81, Tryd.ntmps81
  go_wp2
  go_ret
  exact ⟨rfl, rfl⟩
end Go.Proofs.YtecbfegohdllbaaDoor
end
section
/- Layer 47 (log): slices.Grow and slices.Concat of reports: contracts. -/
namespace Go.Proofs.YtecbfegohdllbaaDoor
open Go.RowKit
set_option linter.unusedVariables false
set_option linter.unusedSimpArgs false
set_option maxRecDepth 100000 in
set_option maxHeartbeats 1000000 in
theorem grow_any (n : Nat) (w : World) (hn : n ≤ 100000) : Calls Tryd.prog 102 #[.slice none 0 0, .int .i64 n] w fun e w' => ∃ u, e = .returned u ∧ Below w.heap.size w w' ∧ Rows' w.heap.size w' u [] := by
  obtain ⟨i0, hi0, hz0, hz1, hz2⟩ := info_parts Tryd.infoRep
  go_enter Tryd.func102, Tryd.ntmps102
  by_cases h0 : n = 0
  · subst h0
    go_wp2
    go_ret
    exact ⟨_, rfl, Below.refl _ _, World.ownsRow_nil _ _ _ _⟩
  · have h1 : (0 : Int) < n := by omega
    have h2 : (n : Int) ≤ 100000 := by omega
    have hc1 : n ≤ grownCap w n 0 50 := grownCap_ge w n 0 _
    have hc2 : grownCap w n 0 50 ≤ maxLen := grownCap_le_maxLen w n 0 _ (by simp [maxLen]; omega)
    have HC1 := hid hc1
    have HC2 := hid hc2
    have RUN := hid (fun ty => Go.Lib.run_append_nil_zeros (P := Tryd.prog) w 60 3 ty 50 i0 (.agg (rcells zeroR)) .i64 .i64 Tryd.underlying60 Tryd.underlying3 hi0 hz0 n (by omega) (by rw [hz1]; decide) (by omega) (by rw [hz2]; omega))
    generalize grownCap w n 0 50 = cap at *
    have hcn : (n : Int) ≤ cap := by omega
    go_wp2_with (at_builtin; refine Go.Lib.wpList_append_run w rfl _ _ _ _ rfl _ _ rfl rfl _ _ (RUN.out _) ?_)
    go_wp2
    go_ret
    refine ⟨_, rfl, ((Below.refl _ w).drew).alloc (Nat.le_refl _) _, by simp [repCells], .inr ⟨w.heap.size, cap, _, rfl, Nat.le_refl _, heap_alloc_new w.drew _, by simp, HC2.out, ?_, by simp [repCells]⟩⟩
    simp [size_zeroCells, hz1]
    have := HC1.out
    have h11 : (rcells zeroR).size = 11 := rcells_size zeroR rfl
    rw [h11]
    omega
end Go.Proofs.YtecbfegohdllbaaDoor
end
section
/- Layer 47 (log): a part of a row of reports; an append of it. -/
namespace Go.Proofs.YtecbfegohdllbaaDoor
open Go.RowKit
set_option linter.unusedVariables false
set_option linter.unusedSimpArgs false
def Part (w : World) (u : Value) (l : List (List Int)) : Prop :=
  (u = .slice none 0 0 ∧ l = []) ∨ ∃ (b : Addr) (c : Nat), u = .slice (some b) l.length c ∧ ∀ (i : Nat) (Z : List Int), l[i]? = some Z → ∀ (j : Nat) (x : Value), (rcells Z).toList[j]? = some x → w.cell? (b.add (11 * i + j)) = some x
theorem wpList_append_part {w : World} {ops : Array Oper} {rest : List Oper} {o : Oper} {a : Act} {Q : Exit → Act → World → Prop} (hgd : o.guard = none) (s x : Operand)
    (ho : o.op = .call { callee := .builtin .append, args := #[s, x], argTypes := #[60, 60] })
    (base : Nat) (v u : Value) (l r : List (List Int)) (hs : a.eval s = v) (hown : Rows' base w v l) (hx : a.eval x = u) (hu : Part w u r) (hr : ∀ Z ∈ r, Z.length = 11)
    (hlen : l.length + r.length ≤ 1000000) (hbase : base ≤ w.heap.size)
    (h : ∀ v' w', Rows' base w' v' (l ++ r) → w.grownBy w' v.ownBlock → (v'.ownBlock = v.ownBlock ∨ v'.ownBlock = some w.heap.size) → wpList Tryd.prog ops Q rest (a.put o.dst v') w') : wpList Tryd.prog ops Q (o :: rest) a w := by
  obtain ⟨i0, hi0, hz0, hz1, hz2⟩ := info_parts Tryd.infoRep
  rcases hu with ⟨rfl, rfl⟩ | ⟨b, cap, rfl, hc⟩
  · refine wpList_append_own_none hgd s x _ ho base 50 i0 11 Tryd.underlying60 hi0 v l.length (repCells l) hs hown hx ?_
    exact h v w (by simpa using hown) (grownBy_refl _ _) (.inl rfl)
  · have hrl : ∀ r : List (List Int), (∀ Z ∈ r, Z.length = 11) → (repCells r).length = r.length * 11 := by
      intro r
      induction r with
      | nil => intro _; rfl
      | cons Z r ih =>
        intro h
        have h1 := rcells_list_len Z (h Z List.mem_cons_self)
        have h2 := ih (fun Y hY => h Y (List.mem_cons_of_mem _ hY))
        unfold repCells at *
        rw [List.flatMap_cons, List.length_append, h1, h2, List.length_cons]
        omega
    refine wpList_append_own_at _ hgd s x _ ho base 50 i0 (.agg (rcells zeroR)) 11 64 Tryd.underlying60 hi0 hz0 hz1 hz2 rfl (by decide) v l.length (repCells l) hs hown b r.length cap (repCells r) hx (hrl r hr) ?_ ?_ (by simp [maxLen]; omega) (by omega) hbase ?_
    · intro j q hj
      have hjl : j < r.length * 11 := by rw [← hrl r hr]; exact (List.getElem?_eq_some_iff.1 hj).1
      have hi : j / 11 < r.length := by omega
      have hZ := hr _ (List.getElem_mem hi)
      have z1 : r[j / 11]? = some r[j / 11] := by simp [hi]
      have hjj : j % 11 < (rcells r[j / 11]).toList.length := by rw [rcells_list_len _ hZ]; omega
      have y1 := List.getElem?_eq_getElem hjj
      have hat := repCells_at r hr (j / 11) (j % 11) _ _ z1 y1
      rw [Nat.div_add_mod] at hat
      rw [hat] at hj
      obtain rfl := Option.some.inj hj
      have := hc _ _ z1 _ _ y1
      rwa [Nat.div_add_mod] at this
    · intro q hq
      unfold repCells at hq
      obtain ⟨Z, hZ, hq⟩ := List.mem_flatMap.1 hq
      exact Array.all_eq_true_iff_forall_mem.1 (rcells_one Z) q (by simpa using hq)
    · intro v' w' a1 a2 _ a3
      refine h v' w' ?_ a2 a3
      unfold Rows'
      rw [List.length_append, repCells_app]
      exact a1
end Go.Proofs.YtecbfegohdllbaaDoor
end
section
/- Layer 47 (log): slices.Concat of two parts: a contract. -/
namespace Go.Proofs.YtecbfegohdllbaaDoor
open Go.RowKit
set_option linter.unusedVariables false
set_option linter.unusedSimpArgs false
theorem Part.form {w : World} {u : Value} {l : List (List Int)} (h : Part w u l) : ∃ a c, u = .slice a l.length c := by
  rcases h with ⟨rfl, rfl⟩ | ⟨b, c, rfl, -⟩
  · exact ⟨none, 0, rfl⟩
  · exact ⟨some b, c, rfl⟩
theorem Part.later {w w' : World} {u : Value} {l : List (List Int)} (h : Part w u l) (hb : Below w.heap.size w w') : Part w' u l := by
  rcases h with h | ⟨b, c, e, hc⟩
  · exact .inl h
  · refine .inr ⟨b, c, e, fun i Z hi j x hj => ?_⟩
    have h1 := hc i Z hi j x hj
    refine (World.cell?_of_block (hb.block _ ?_)).trans h1
    simp only [World.cell?] at h1
    split at h1
    · rename_i hbb; exact (Array.getElem?_eq_some_iff.1 hbb).1
    · cases h1
set_option maxRecDepth 100000 in
set_option maxHeartbeats 1000000 in
theorem concat_any (b : Nat) (v1 v2 : Value) (l1 l2 : List (List Int)) (w : World) (hbx : w.heap[b]? = some (.cells #[v1, v2] 60 (0, 0))) (h1 : Part w v1 l1) (h2 : Part w v2 l2) (hl1 : ∀ Z ∈ l1, Z.length = 11) (hl2 : ∀ Z ∈ l2, Z.length = 11) (hn : l1.length + l2.length ≤ 10000) :
    Calls Tryd.prog 89 #[.slice (some ⟨b, 0, none⟩) 2 2] w fun e w' => ∃ u, e = .returned u ∧ Below w.heap.size w w' ∧ Rows' w.heap.size w' u (l1 ++ l2) := by
  obtain ⟨a1, c1, rfl⟩ := h1.form
  obtain ⟨a2, c2, rfl⟩ := h2.form
  have H1 := hid (fun W (hW : Below w.heap.size w W) => h1.later hW)
  have H2 := hid (fun W (hW : Below w.heap.size w W) => h2.later hW)
  have CC := hid (fun W (hW : Below w.heap.size w W) => (show W.cell? ⟨b, 0, none⟩ = some (.slice a1 l1.length c1) ∧ W.cell? ⟨b, 1, none⟩ = some (.slice a2 l2.length c2) from by
    have hb := (hW.block b (lt_of_row hbx)).trans hbx
    exact ⟨(cell_of_row W b 0 _ _ _ hb).trans rfl, (cell_of_row W b 1 _ _ _ hb).trans rfl⟩))
  have HL1 := hid hl1
  have HL2 := hid hl2
  have HNN := hid hn
  have m1 : (l1.length : Int) ≤ 10000 := by omega
  have m2 : (l2.length : Int) ≤ 10000 := by omega
  have m3 : (l1.length : Int) + l2.length ≤ 10000 := by omega
  obtain ⟨k0, k1⟩ := CC.out w (Below.refl _ _)
  clear h1 h2 hbx hl1 hl2 hn
  go_enter Tryd.func89, Tryd.ntmps89
  go_wp2_with fail
  go_loopw [3, 11] (fun s i wr => wr = w ∧ ((i = .int .i64 0 ∧ s = .int .i64 0) ∨ (i = .int .i64 1 ∧ s = .int .i64 l1.length) ∨ (i = .int .i64 2 ∧ s = .int .i64 (l1.length + l2.length : Nat)))) (fun _ i _ => 2 - (intOf i).toNat)
  case atStart => exact ⟨rfl, .inl ⟨rfl, rfl⟩⟩
  case round =>
    obtain ⟨hwr, hrel⟩ := hrel
    have hwr2 := hwr.symm
    subst hwr2
    obtain ⟨rfl, rfl⟩ | ⟨rfl, rfl⟩ | ⟨rfl, rfl⟩ := hrel
    · go_wp2
      go_roundw
      case rel => exact ⟨trivial, .inr (.inl ⟨rfl, by go_num⟩)⟩
      case measure => simp [intOf]
    · go_wp2
      go_roundw
      case rel => exact ⟨trivial, .inr (.inr ⟨rfl, by go_num⟩)⟩
      case measure => simp [intOf]
    · go_wp2_with fail
      refine (grow_any (l1.length + l2.length) _ (by have := HNN.out; omega)).mono ?_
      rintro e w2 ⟨u, rfl, hb2, hrow⟩
      obtain ⟨q0, q1⟩ := CC.out w2 hb2
      obtain ⟨ua, uc, rfl⟩ := own_slice hrow
      have HR0 := hid hrow
      clear hrow
      go_wp2_with fail
      go_loopw [6, 27] (fun u i W => Below w.heap.size w W ∧ ((i = .int .i64 0 ∧ Rows' w.heap.size W u []) ∨ (i = .int .i64 1 ∧ Rows' w.heap.size W u l1) ∨ (i = .int .i64 2 ∧ Rows' w.heap.size W u (l1 ++ l2)))) (fun _ i _ => 2 - (intOf i).toNat)
      case atStart => exact ⟨hb2, .inl ⟨rfl, HR0.out⟩⟩
      case round =>
        obtain ⟨hbW, ⟨rfl, hR⟩ | ⟨rfl, hR⟩ | ⟨rfl, hR⟩⟩ := hrel
        · obtain ⟨p0, p1⟩ := CC.out _ hbW
          have HR := hid hR
          clear hR
          go_wp2_with (((with_reducible refine at_op (.call { callee := .builtin .append, args := #[.tmp 31, .tmp 32], argTypes := #[60, 60] }) ?_); refine wpList_append_part rfl (.tmp 31) (.tmp 32) rfl w.heap.size _ _ [] l1 rfl HR.out rfl (H1.out wr hbW) HL1.out ?_ hbW.size ?_; (have := HNN.out; simp; try omega); intro v5 w5 hown5 hg5 _))
          have HB := hid (hbW.grown hg5 hbW.size (fun k e => (HR.out.lt k e).1))
          have HO := hid hown5
          clear hown5 hg5
          go_roundw
          case rel => exact ⟨HB.out, .inr (.inl ⟨rfl, by simpa using HO.out⟩)⟩
          case measure => simp [intOf]
        · obtain ⟨p0, p1⟩ := CC.out _ hbW
          have HR := hid hR
          clear hR
          go_wp2_with (((with_reducible refine at_op (.call { callee := .builtin .append, args := #[.tmp 31, .tmp 32], argTypes := #[60, 60] }) ?_); refine wpList_append_part rfl (.tmp 31) (.tmp 32) rfl w.heap.size _ _ l1 l2 rfl HR.out rfl (H2.out wr hbW) HL2.out ?_ hbW.size ?_; (have := HNN.out; simp; try omega); intro v5 w5 hown5 hg5 _))
          have HB := hid (hbW.grown hg5 hbW.size (fun k e => (HR.out.lt k e).1))
          have HO := hid hown5
          clear hown5 hg5
          go_roundw
          case rel => exact ⟨HB.out, .inr (.inr ⟨rfl, HO.out⟩)⟩
          case measure => simp [intOf]
        · have HR := hid hR
          clear hR
          go_wp2
          go_ret
          exact ⟨_, rfl, hbW, HR.out⟩
end Go.Proofs.YtecbfegohdllbaaDoor
end
section
/- Layer 47 (log): All: a contract. -/
namespace Go.Proofs.YtecbfegohdllbaaDoor
open Go.RowKit
set_option linter.unusedVariables false
set_option linter.unusedSimpArgs false
theorem lall_nil (w : World) : Calls Tryd.prog 57 #[.pointer none] w fun e w' => e = .returned (.slice none 0 0) ∧ w = w' := by
  go_enter Tryd.func57, Tryd.ntmps57
  go_wp2_with fail
  refine (live_nil w).mono ?_
  rintro e w2 ⟨rfl, rfl⟩
  go_wp2
  go_ret
  exact ⟨rfl, rfl⟩
theorem lall_odd (g : Nat) (x y : Value) (w : World) (h : w.heap[g]? = some (.cells #[.int .i64 0, x, y] 117 (0, 0))) : Calls Tryd.prog 57 #[.pointer (some ⟨g, 0, none⟩)] w fun e w' => e = .returned (.slice none 0 0) ∧ w = w' := by
  have L := hid (live_odd g x y w h)
  clear h
  go_enter Tryd.func57, Tryd.ntmps57
  go_wp2_with fail
  refine L.out.mono ?_
  rintro e w2 ⟨rfl, rfl⟩
  go_wp2
  go_ret
  exact ⟨rfl, rfl⟩
theorem part_of_rows {W : World} {base f : Nat} {u : Value} {R : List (List Int)} (h : Rows' base W u R) (hl : ∀ Z ∈ R, Z.length = 11) (hf : f ≤ R.length) :
    (u = .slice none 0 0 ∧ R = []) ∨ ∃ g c, u = .slice (some ⟨g, 0, none⟩) R.length c ∧ R.length ≤ c ∧ Part W (.slice (some ⟨g, 0, none⟩) f c) (R.take f) ∧ (∀ k, Part W (.slice (some ⟨g, 11 * f, none⟩) (R.length - f) k) (R.drop f)) := by
  have hr := rrow_of_rows h hl
  rcases h.2 with ⟨rfl, h0⟩ | ⟨g, c, cur, rfl, -, -, hc, -, -, -⟩
  · exact .inl ⟨rfl, List.eq_nil_of_length_eq_zero h0⟩
  · refine .inr ⟨g, c, rfl, hc, .inr ⟨⟨g, 0, none⟩, c, by simp [Nat.min_eq_left hf], fun i Z hi j x hj => ?_⟩, fun k => .inr ⟨⟨g, 11 * f, none⟩, k, by simp, fun i Z hi j x hj => ?_⟩⟩
    · have hZ : R[i]? = some Z := by
        rw [List.getElem?_take] at hi
        split at hi
        · exact hi
        · cases hi
      rw [add_plain]
      exact rrow_cells hr hZ j x hj _ (by omega)
    · rw [List.getElem?_drop] at hi
      rw [add_plain]
      exact rrow_cells hr hi j x hj _ (by omega)
def AllP (u : Value) (g f : Nat) (va vb : Value) (w : World) (l1 l2 : List (List Int)) : Prop := Part w va l1 ∧ Part w vb l2
set_option maxRecDepth 100000 in
set_option maxHeartbeats 1000000 in
theorem lall_any {M g room f : Nat} {ring : Value} {R : List (List Int)} (w : World) (h : LG M g room ring R f w) :
    Calls Tryd.prog 57 #[.pointer (some ⟨g, 0, none⟩)] w fun e w' => ∃ u, e = .returned u ∧ Below w.heap.size w w' ∧ Rows' w.heap.size w' u (ringL R f) := by
  obtain ⟨q0, q1, q2, q3, q4, q5, q6, q7, q8, q9⟩ := h
  have hl11 : ∀ Z ∈ R, Z.length = 11 := fun Z hZ => (q4 Z hZ).1.1
  have hfle : f ≤ R.length := by
    by_cases h : R.length < room
    · have := q8 h; omega
    · omega
  have hR1 : R.length ≤ 1000 := by omega
  obtain ⟨ua, uc, rfl⟩ := own_slice q1
  have k1 : w.cell? ⟨g, 1, none⟩ = some (.slice ua R.length uc) := (cell_of_row w g 1 _ _ _ q0).trans rfl
  have k2 : w.cell? ⟨g, 2, none⟩ = some (.int .i64 f) := (cell_of_row w g 2 _ _ _ q0).trans rfl
  have hgl := lt_of_row q0
  have LV := hid (live_row g room _ _ w (by omega) q0)
  have HL1 := hid (show ∀ Z ∈ R.drop f, Z.length = 11 from fun Z hZ => hl11 Z (List.mem_of_mem_drop hZ))
  have HL2 := hid (show ∀ Z ∈ R.take f, Z.length = 11 from fun Z hZ => hl11 Z (List.mem_of_mem_take hZ))
  have HN := hid (show (R.drop f).length + (R.take f).length ≤ 10000 by simp; omega)
  have HRL := hid (show R.drop f ++ R.take f = ringL R f from rfl)
  rcases part_of_rows q1 hl11 hfle with ⟨h0, rfl⟩ | ⟨g', c, h0, hc, P1, P2⟩
  · obtain ⟨rfl, -, rfl⟩ := Value.slice.inj h0
    obtain rfl : f = 0 := by simpa using hfle
    have PA := hid (show Part w (.slice none 0 0) (([] : List (List Int)).drop 0) from .inl ⟨rfl, rfl⟩)
    have PB := hid (show Part w (.slice none 0 0) (([] : List (List Int)).take 0) from .inl ⟨rfl, rfl⟩)
    clear q0 q1 q2 q3 q4 q5 q6 q7 q8 q9 hl11 hfle hR1 h0
    go_enter Tryd.func57, Tryd.ntmps57
    go_wp2_with fail
    refine LV.out.mono ?_
    rintro e w2 ⟨rfl, rfl⟩
    go_wp2_with fail
    refine wp_region_F' (B := w.heap.size) (n := 21) (l := #[false, false, false, false, false, false, false, false, false, false, false, false, false, false, false, false, false, false, false, false, false]) (by kernel_rfl) (by kernel_rfl) (by kernel_rfl) ?_
    refine wpAnyF_take (i := 0) (v := ?vp_0_1) (some 6) rfl rfl (by kernel_rfl) (by kernel_rfl) (by kernel_rfl) (fun _ _ _ h => h) (by rfl) ?hvp_0_1 ?restp_0_1
    case hvp_0_1 => (intro w' hb; go_simp; try with_reducible rfl)
    simp only [Act.put, List.setIfInBounds_toArray, List.set_cons_zero, List.set_cons_succ]
    refine wpAnyF_take (i := 1) (v := ?vp_1_2) (some 7) rfl rfl (by kernel_rfl) (by kernel_rfl) (by kernel_rfl) (fun _ _ _ h => h) (by rfl) ?hvp_1_2 ?restp_1_2
    case hvp_1_2 => (intro w' hb; go_simp; try with_reducible rfl)
    simp only [Act.put, List.setIfInBounds_toArray, List.set_cons_zero, List.set_cons_succ]
    refine wpAnyF_take (i := 2) (v := ?vp_2_3) (some 8) rfl rfl (by kernel_rfl) (by kernel_rfl) (by kernel_rfl) (fun _ _ _ h => h) (by rfl) ?hvp_2_3 ?restp_2_3
    case hvp_2_3 => (intro w' hb; go_simp; try with_reducible rfl)
    simp only [Act.put, List.setIfInBounds_toArray, List.set_cons_zero, List.set_cons_succ]
    refine wpAnyF_take (i := 3) (v := ?vp_3_4) (some 9) rfl rfl (by kernel_rfl) (by kernel_rfl) (by kernel_rfl) (fun _ _ _ h => h) (by rfl) ?hvp_3_4 ?restp_3_4
    case hvp_3_4 => (intro w' hb; (have hcw := (hb.cell (p := ⟨g, 1, none⟩) hgl).trans k1; go_simp; try with_reducible rfl))
    simp only [Act.put, List.setIfInBounds_toArray, List.set_cons_zero, List.set_cons_succ]
    refine wpAnyF_take (i := 4) (v := ?vp_4_5) (some 10) rfl rfl (by kernel_rfl) (by kernel_rfl) (by kernel_rfl) (fun _ _ _ h => h) (by rfl) ?hvp_4_5 ?restp_4_5
    case hvp_4_5 => (intro w' hb; go_simp; try with_reducible rfl)
    simp only [Act.put, List.setIfInBounds_toArray, List.set_cons_zero, List.set_cons_succ]
    refine wpAnyF_take (i := 5) (v := ?vp_5_6) (some 11) rfl rfl (by kernel_rfl) (by kernel_rfl) (by kernel_rfl) (fun _ _ _ h => h) (by rfl) ?hvp_5_6 ?restp_5_6
    case hvp_5_6 => (intro w' hb; go_simp; try with_reducible rfl)
    simp only [Act.put, List.setIfInBounds_toArray, List.set_cons_zero, List.set_cons_succ]
    refine wpAnyF_take (i := 6) (v := ?vp_6_7) (some 12) rfl rfl (by kernel_rfl) (by kernel_rfl) (by kernel_rfl) (fun _ _ _ h => h) (by rfl) ?hvp_6_7 ?restp_6_7
    case hvp_6_7 => (intro w' hb; go_simp; try with_reducible rfl)
    simp only [Act.put, List.setIfInBounds_toArray, List.set_cons_zero, List.set_cons_succ]
    refine wpAnyF_take (i := 7) (v := ?vp_7_8) (some 13) rfl rfl (by kernel_rfl) (by kernel_rfl) (by kernel_rfl) (fun _ _ _ h => h) (by rfl) ?hvp_7_8 ?restp_7_8
    case hvp_7_8 => (intro w' hb; (have hcw := (hb.cell (p := ⟨g, 2, none⟩) hgl).trans k2; go_simp; try with_reducible rfl))
    simp only [Act.put, List.setIfInBounds_toArray, List.set_cons_zero, List.set_cons_succ]
    refine wpAnyF_take (i := 8) (v := ?vp_8_9) (some 14) rfl rfl (by kernel_rfl) (by kernel_rfl) (by kernel_rfl) (fun _ _ _ h => h) (by rfl) ?hvp_8_9 ?restp_8_9
    case hvp_8_9 => (intro w' hb; go_simp; try with_reducible rfl)
    simp only [Act.put, List.setIfInBounds_toArray, List.set_cons_zero, List.set_cons_succ]
    refine wpAnyF_take (i := 9) (v := ?vp_9_10) (some 15) rfl rfl (by kernel_rfl) (by kernel_rfl) (by kernel_rfl) (fun _ _ _ h => h) (by rfl) ?hvp_9_10 ?restp_9_10
    case hvp_9_10 => (intro w' hb; go_simp; try with_reducible rfl)
    simp only [Act.put, List.setIfInBounds_toArray, List.set_cons_zero, List.set_cons_succ]
    refine wpAnyF_take (i := 10) (v := ?vp_10_11) (some 16) rfl rfl (by kernel_rfl) (by kernel_rfl) (by kernel_rfl) (fun _ _ _ h => h) (by rfl) ?hvp_10_11 ?restp_10_11
    case hvp_10_11 => (intro w' hb; go_simp; try with_reducible rfl)
    simp only [Act.put, List.setIfInBounds_toArray, List.set_cons_zero, List.set_cons_succ]
    refine wpAnyF_take (i := 11) (v := ?vp_11_12) (some 17) rfl rfl (by kernel_rfl) (by kernel_rfl) (by kernel_rfl) (fun _ _ _ h => h) (by rfl) ?hvp_11_12 ?restp_11_12
    case hvp_11_12 => (intro w' hb; go_simp; try with_reducible rfl)
    simp only [Act.put, List.setIfInBounds_toArray, List.set_cons_zero, List.set_cons_succ]
    refine wpAnyF_take (i := 12) (v := ?vp_12_13) (some 18) rfl rfl (by kernel_rfl) (by kernel_rfl) (by kernel_rfl) (fun _ _ _ h => h) (by rfl) ?hvp_12_13 ?restp_12_13
    case hvp_12_13 => (intro w' hb; (have hcw := (hb.cell (p := ⟨g, 1, none⟩) hgl).trans k1; go_simp; try with_reducible rfl))
    simp only [Act.put, List.setIfInBounds_toArray, List.set_cons_zero, List.set_cons_succ]
    refine wpAnyF_take (i := 13) (v := ?vp_13_14) (some 19) rfl rfl (by kernel_rfl) (by kernel_rfl) (by kernel_rfl) (fun _ _ _ h => h) (by rfl) ?hvp_13_14 ?restp_13_14
    case hvp_13_14 => (intro w' hb; go_simp; try with_reducible rfl)
    simp only [Act.put, List.setIfInBounds_toArray, List.set_cons_zero, List.set_cons_succ]
    refine wpAnyF_take (i := 14) (v := ?vp_14_15) (some 20) rfl rfl (by kernel_rfl) (by kernel_rfl) (by kernel_rfl) (fun _ _ _ h => h) (by rfl) ?hvp_14_15 ?restp_14_15
    case hvp_14_15 => (intro w' hb; go_simp; try with_reducible rfl)
    simp only [Act.put, List.setIfInBounds_toArray, List.set_cons_zero, List.set_cons_succ]
    refine wpAnyF_take (i := 15) (v := ?vp_15_16) (some 21) rfl rfl (by kernel_rfl) (by kernel_rfl) (by kernel_rfl) (fun _ _ _ h => h) (by rfl) ?hvp_15_16 ?restp_15_16
    case hvp_15_16 => (intro w' hb; go_simp; try with_reducible rfl)
    simp only [Act.put, List.setIfInBounds_toArray, List.set_cons_zero, List.set_cons_succ]
    refine wpAnyF_take (i := 16) (v := ?vp_16_17) (some 22) rfl rfl (by kernel_rfl) (by kernel_rfl) (by kernel_rfl) (fun _ _ _ h => h) (by rfl) ?hvp_16_17 ?restp_16_17
    case hvp_16_17 => (intro w' hb; (have hcw := (hb.cell (p := ⟨g, 2, none⟩) hgl).trans k2; go_simp; try with_reducible rfl))
    simp only [Act.put, List.setIfInBounds_toArray, List.set_cons_zero, List.set_cons_succ]
    refine wpAnyF_take (i := 17) (v := ?vp_17_18) (some 23) rfl rfl (by kernel_rfl) (by kernel_rfl) (by kernel_rfl) (fun _ _ _ h => h) (by rfl) ?hvp_17_18 ?restp_17_18
    case hvp_17_18 => (intro w' hb; go_simp; try with_reducible rfl)
    simp only [Act.put, List.setIfInBounds_toArray, List.set_cons_zero, List.set_cons_succ]
    refine wpAnyF_alone (i := 18) rfl (by kernel_rfl) (by rfl) (fun K hK => ?_)
    go_simp
    have hb : Below w.heap.size w.drew (w.drew.alloc (.cells #[.slice none 0 0, .slice none 0 0] 60)) := (Below.refl _ _).alloc (by simp) _
    refine hK.out _ _ hb ?_
    clear hK K
    simp only [List.setIfInBounds_toArray, List.set_cons_zero, List.set_cons_succ]
    refine wpAnyF_alone (i := 19) rfl (by kernel_rfl) (by rfl) (fun K hK => ?_)
    go_simp
    have hbw : Below w.heap.size w (w.drew.alloc (.cells #[.slice none 0 0, .slice none 0 0] 60)) := ((Below.refl _ w).drew).alloc (by simp) _
    refine (concat_any w.drew.heap.size _ _ _ _ _ (heap_alloc_new w.drew _) (PA.out.later hbw) (PB.out.later hbw) HL1.out HL2.out HN.out).mono ?_
    rintro e w4 ⟨u, rfl, hb4, hrow⟩
    have hb : Below w.heap.size (w.drew.alloc (.cells #[.slice none 0 0, .slice none 0 0] 60)) w4 := hb4.mono (by simp)
    refine hK.out _ _ hb ?_
    clear hK K
    simp only [List.setIfInBounds_toArray, List.set_cons_zero, List.set_cons_succ]
    refine wpAnyF_take (i := 20) (v := ?vp_20_19) (some 2) rfl rfl (by kernel_rfl) (by kernel_rfl) (by kernel_rfl) (fun _ _ _ h => h) (by rfl) ?hvp_20_19 ?restp_20_19
    case hvp_20_19 => (intro w' hb; go_simp; try with_reducible rfl)
    simp only [Act.put, List.setIfInBounds_toArray, List.set_cons_zero, List.set_cons_succ]
    refine wpAnyF_done (by kernel_rfl) ?_ _
    go_wp2
    go_ret
    exact ⟨_, rfl, hbw.trans hb, by rw [← HRL.out]; exact own_base hrow (by simp)⟩
  · obtain ⟨rfl, -, rfl⟩ := Value.slice.inj h0
    by_cases hf : f = 0
    · subst hf
      have PA := hid (show Part w (.slice (some ⟨g', 0, none⟩) R.length uc) (R.drop 0) from by have := P2 uc; simpa using this)
      have PB := hid (show Part w (.slice (some ⟨g', 0, none⟩) 0 uc) (R.take 0) from P1)
      clear q0 q1 q2 q3 q4 q5 q6 q7 q8 q9 hl11 hfle h0 P1 P2
      generalize R.length = m at *
      have hm : (m : Int) ≤ 1000 := by omega
      have hmc : (m : Int) ≤ uc := by omega
      have hmu : 0 ≤ (uc : Int) := by omega
      go_enter Tryd.func57, Tryd.ntmps57
      go_wp2_with fail
      refine LV.out.mono ?_
      rintro e w2 ⟨rfl, rfl⟩
      go_wp2_with fail
      refine wp_region_F' (B := w.heap.size) (n := 21) (l := #[false, false, false, false, false, false, false, false, false, false, false, false, false, false, false, false, false, false, false, false, false]) (by kernel_rfl) (by kernel_rfl) (by kernel_rfl) ?_
      refine wpAnyF_take (i := 0) (v := ?vq_0_1) (some 6) rfl rfl (by kernel_rfl) (by kernel_rfl) (by kernel_rfl) (fun _ _ _ h => h) (by rfl) ?hvq_0_1 ?restq_0_1
      case hvq_0_1 => (intro w' hb; go_simp; try with_reducible rfl)
      simp only [Act.put, List.setIfInBounds_toArray, List.set_cons_zero, List.set_cons_succ]
      refine wpAnyF_take (i := 1) (v := ?vq_1_2) (some 7) rfl rfl (by kernel_rfl) (by kernel_rfl) (by kernel_rfl) (fun _ _ _ h => h) (by rfl) ?hvq_1_2 ?restq_1_2
      case hvq_1_2 => (intro w' hb; go_simp; try with_reducible rfl)
      simp only [Act.put, List.setIfInBounds_toArray, List.set_cons_zero, List.set_cons_succ]
      refine wpAnyF_take (i := 2) (v := ?vq_2_3) (some 8) rfl rfl (by kernel_rfl) (by kernel_rfl) (by kernel_rfl) (fun _ _ _ h => h) (by rfl) ?hvq_2_3 ?restq_2_3
      case hvq_2_3 => (intro w' hb; go_simp; try with_reducible rfl)
      simp only [Act.put, List.setIfInBounds_toArray, List.set_cons_zero, List.set_cons_succ]
      refine wpAnyF_take (i := 3) (v := ?vq_3_4) (some 9) rfl rfl (by kernel_rfl) (by kernel_rfl) (by kernel_rfl) (fun _ _ _ h => h) (by rfl) ?hvq_3_4 ?restq_3_4
      case hvq_3_4 => (intro w' hb; (have hcw := (hb.cell (p := ⟨g, 1, none⟩) hgl).trans k1; go_simp; try with_reducible rfl))
      simp only [Act.put, List.setIfInBounds_toArray, List.set_cons_zero, List.set_cons_succ]
      refine wpAnyF_take (i := 4) (v := ?vq_4_5) (some 10) rfl rfl (by kernel_rfl) (by kernel_rfl) (by kernel_rfl) (fun _ _ _ h => h) (by rfl) ?hvq_4_5 ?restq_4_5
      case hvq_4_5 => (intro w' hb; go_simp; try with_reducible rfl)
      simp only [Act.put, List.setIfInBounds_toArray, List.set_cons_zero, List.set_cons_succ]
      refine wpAnyF_take (i := 5) (v := ?vq_5_6) (some 11) rfl rfl (by kernel_rfl) (by kernel_rfl) (by kernel_rfl) (fun _ _ _ h => h) (by rfl) ?hvq_5_6 ?restq_5_6
      case hvq_5_6 => (intro w' hb; go_simp; try with_reducible rfl)
      simp only [Act.put, List.setIfInBounds_toArray, List.set_cons_zero, List.set_cons_succ]
      refine wpAnyF_take (i := 6) (v := ?vq_6_7) (some 12) rfl rfl (by kernel_rfl) (by kernel_rfl) (by kernel_rfl) (fun _ _ _ h => h) (by rfl) ?hvq_6_7 ?restq_6_7
      case hvq_6_7 => (intro w' hb; go_simp; try with_reducible rfl)
      simp only [Act.put, List.setIfInBounds_toArray, List.set_cons_zero, List.set_cons_succ]
      refine wpAnyF_take (i := 7) (v := ?vq_7_8) (some 13) rfl rfl (by kernel_rfl) (by kernel_rfl) (by kernel_rfl) (fun _ _ _ h => h) (by rfl) ?hvq_7_8 ?restq_7_8
      case hvq_7_8 => (intro w' hb; (have hcw := (hb.cell (p := ⟨g, 2, none⟩) hgl).trans k2; go_simp; try with_reducible rfl))
      simp only [Act.put, List.setIfInBounds_toArray, List.set_cons_zero, List.set_cons_succ]
      refine wpAnyF_take (i := 8) (v := ?vq_8_9) (some 14) rfl rfl (by kernel_rfl) (by kernel_rfl) (by kernel_rfl) (fun _ _ _ h => h) (by rfl) ?hvq_8_9 ?restq_8_9
      case hvq_8_9 => (intro w' hb; go_simp; try with_reducible rfl)
      simp only [Act.put, List.setIfInBounds_toArray, List.set_cons_zero, List.set_cons_succ]
      refine wpAnyF_take (i := 9) (v := ?vq_9_10) (some 15) rfl rfl (by kernel_rfl) (by kernel_rfl) (by kernel_rfl) (fun _ _ _ h => h) (by rfl) ?hvq_9_10 ?restq_9_10
      case hvq_9_10 => (intro w' hb; go_simp; try with_reducible rfl)
      simp only [Act.put, List.setIfInBounds_toArray, List.set_cons_zero, List.set_cons_succ]
      refine wpAnyF_take (i := 10) (v := ?vq_10_11) (some 16) rfl rfl (by kernel_rfl) (by kernel_rfl) (by kernel_rfl) (fun _ _ _ h => h) (by rfl) ?hvq_10_11 ?restq_10_11
      case hvq_10_11 => (intro w' hb; go_simp; try with_reducible rfl)
      simp only [Act.put, List.setIfInBounds_toArray, List.set_cons_zero, List.set_cons_succ]
      refine wpAnyF_take (i := 11) (v := ?vq_11_12) (some 17) rfl rfl (by kernel_rfl) (by kernel_rfl) (by kernel_rfl) (fun _ _ _ h => h) (by rfl) ?hvq_11_12 ?restq_11_12
      case hvq_11_12 => (intro w' hb; go_simp; try with_reducible rfl)
      simp only [Act.put, List.setIfInBounds_toArray, List.set_cons_zero, List.set_cons_succ]
      refine wpAnyF_take (i := 12) (v := ?vq_12_13) (some 18) rfl rfl (by kernel_rfl) (by kernel_rfl) (by kernel_rfl) (fun _ _ _ h => h) (by rfl) ?hvq_12_13 ?restq_12_13
      case hvq_12_13 => (intro w' hb; (have hcw := (hb.cell (p := ⟨g, 1, none⟩) hgl).trans k1; go_simp; try with_reducible rfl))
      simp only [Act.put, List.setIfInBounds_toArray, List.set_cons_zero, List.set_cons_succ]
      refine wpAnyF_take (i := 13) (v := ?vq_13_14) (some 19) rfl rfl (by kernel_rfl) (by kernel_rfl) (by kernel_rfl) (fun _ _ _ h => h) (by rfl) ?hvq_13_14 ?restq_13_14
      case hvq_13_14 => (intro w' hb; go_simp; try with_reducible rfl)
      simp only [Act.put, List.setIfInBounds_toArray, List.set_cons_zero, List.set_cons_succ]
      refine wpAnyF_take (i := 14) (v := ?vq_14_15) (some 20) rfl rfl (by kernel_rfl) (by kernel_rfl) (by kernel_rfl) (fun _ _ _ h => h) (by rfl) ?hvq_14_15 ?restq_14_15
      case hvq_14_15 => (intro w' hb; go_simp; try with_reducible rfl)
      simp only [Act.put, List.setIfInBounds_toArray, List.set_cons_zero, List.set_cons_succ]
      refine wpAnyF_take (i := 15) (v := ?vq_15_16) (some 21) rfl rfl (by kernel_rfl) (by kernel_rfl) (by kernel_rfl) (fun _ _ _ h => h) (by rfl) ?hvq_15_16 ?restq_15_16
      case hvq_15_16 => (intro w' hb; go_simp; try with_reducible rfl)
      simp only [Act.put, List.setIfInBounds_toArray, List.set_cons_zero, List.set_cons_succ]
      refine wpAnyF_take (i := 16) (v := ?vq_16_17) (some 22) rfl rfl (by kernel_rfl) (by kernel_rfl) (by kernel_rfl) (fun _ _ _ h => h) (by rfl) ?hvq_16_17 ?restq_16_17
      case hvq_16_17 => (intro w' hb; (have hcw := (hb.cell (p := ⟨g, 2, none⟩) hgl).trans k2; go_simp; try with_reducible rfl))
      simp only [Act.put, List.setIfInBounds_toArray, List.set_cons_zero, List.set_cons_succ]
      refine wpAnyF_take (i := 17) (v := ?vq_17_18) (some 23) rfl rfl (by kernel_rfl) (by kernel_rfl) (by kernel_rfl) (fun _ _ _ h => h) (by rfl) ?hvq_17_18 ?restq_17_18
      case hvq_17_18 => (intro w' hb; go_simp; try with_reducible rfl)
      simp only [Act.put, List.setIfInBounds_toArray, List.set_cons_zero, List.set_cons_succ]
      refine wpAnyF_alone (i := 18) rfl (by kernel_rfl) (by rfl) (fun K hK => ?_)
      go_simp
      have hb : Below w.heap.size w.drew (w.drew.alloc (.cells #[.slice (some ⟨g', 0, none⟩) m uc, .slice (some ⟨g', 0, none⟩) 0 uc] 60)) := (Below.refl _ _).alloc (by simp) _
      refine hK.out _ _ hb ?_
      clear hK K
      simp only [List.setIfInBounds_toArray, List.set_cons_zero, List.set_cons_succ]
      refine wpAnyF_alone (i := 19) rfl (by kernel_rfl) (by rfl) (fun K hK => ?_)
      go_simp
      have hbw : Below w.heap.size w (w.drew.alloc (.cells #[.slice (some ⟨g', 0, none⟩) m uc, .slice (some ⟨g', 0, none⟩) 0 uc] 60)) := ((Below.refl _ w).drew).alloc (by simp) _
      refine (concat_any w.drew.heap.size _ _ _ _ _ (heap_alloc_new w.drew _) (PA.out.later hbw) (PB.out.later hbw) HL1.out HL2.out HN.out).mono ?_
      rintro e w4 ⟨u, rfl, hb4, hrow⟩
      have hb : Below w.heap.size (w.drew.alloc (.cells #[.slice (some ⟨g', 0, none⟩) m uc, .slice (some ⟨g', 0, none⟩) 0 uc] 60)) w4 := hb4.mono (by simp)
      refine hK.out _ _ hb ?_
      clear hK K
      simp only [List.setIfInBounds_toArray, List.set_cons_zero, List.set_cons_succ]
      refine wpAnyF_take (i := 20) (v := ?vq_20_19) (some 2) rfl rfl (by kernel_rfl) (by kernel_rfl) (by kernel_rfl) (fun _ _ _ h => h) (by rfl) ?hvq_20_19 ?restq_20_19
      case hvq_20_19 => (intro w' hb; go_simp; try with_reducible rfl)
      simp only [Act.put, List.setIfInBounds_toArray, List.set_cons_zero, List.set_cons_succ]
      refine wpAnyF_done (by kernel_rfl) ?_ _
      go_wp2
      go_ret
      exact ⟨_, rfl, hbw.trans hb, by rw [← HRL.out]; exact own_base hrow (by simp)⟩
    · have hfm : f < R.length := by
        by_cases h : R.length < room
        · exact absurd (q8 h) hf
        · omega
      have PA := hid (show Part w (.slice (some ⟨g', f * 11, none⟩) (R.length - f) (uc - f)) (R.drop f) from by have := P2 (uc - f); rwa [Nat.mul_comm] at this)
      have PB := hid (show Part w (.slice (some ⟨g', 0, none⟩) f uc) (R.take f) from P1)
      clear q0 q1 q2 q3 q4 q5 q6 q7 q8 q9 hl11 hfle h0 P1 P2
      generalize R.length = m at *
      have hm : (m : Int) ≤ 1000 := by omega
      have hmc : (m : Int) ≤ uc := by omega
      have hfc : ¬ (uc : Int) = f := by omega
      have hfc' : ¬ uc = f := by omega
      have hfm' : (f : Int) < m := by omega
      go_enter Tryd.func57, Tryd.ntmps57
      go_wp2_with fail
      refine LV.out.mono ?_
      rintro e w2 ⟨rfl, rfl⟩
      go_wp2_with fail
      refine wp_region_F' (B := w.heap.size) (n := 21) (l := #[false, false, false, false, false, false, false, false, false, false, false, false, false, false, false, false, false, false, false, false, false]) (by kernel_rfl) (by kernel_rfl) (by kernel_rfl) ?_
      refine wpAnyF_take (i := 0) (v := ?vo_0_1) (some 6) rfl rfl (by kernel_rfl) (by kernel_rfl) (by kernel_rfl) (fun _ _ _ h => h) (by rfl) ?hvo_0_1 ?resto_0_1
      case hvo_0_1 => (intro w' hb; go_simp; try with_reducible rfl)
      simp only [Act.put, List.setIfInBounds_toArray, List.set_cons_zero, List.set_cons_succ]
      refine wpAnyF_take (i := 1) (v := ?vo_1_2) (some 7) rfl rfl (by kernel_rfl) (by kernel_rfl) (by kernel_rfl) (fun _ _ _ h => h) (by rfl) ?hvo_1_2 ?resto_1_2
      case hvo_1_2 => (intro w' hb; go_simp; try with_reducible rfl)
      simp only [Act.put, List.setIfInBounds_toArray, List.set_cons_zero, List.set_cons_succ]
      refine wpAnyF_take (i := 2) (v := ?vo_2_3) (some 8) rfl rfl (by kernel_rfl) (by kernel_rfl) (by kernel_rfl) (fun _ _ _ h => h) (by rfl) ?hvo_2_3 ?resto_2_3
      case hvo_2_3 => (intro w' hb; go_simp; try with_reducible rfl)
      simp only [Act.put, List.setIfInBounds_toArray, List.set_cons_zero, List.set_cons_succ]
      refine wpAnyF_take (i := 3) (v := ?vo_3_4) (some 9) rfl rfl (by kernel_rfl) (by kernel_rfl) (by kernel_rfl) (fun _ _ _ h => h) (by rfl) ?hvo_3_4 ?resto_3_4
      case hvo_3_4 => (intro w' hb; (have hcw := (hb.cell (p := ⟨g, 1, none⟩) hgl).trans k1; go_simp; try with_reducible rfl))
      simp only [Act.put, List.setIfInBounds_toArray, List.set_cons_zero, List.set_cons_succ]
      refine wpAnyF_take (i := 4) (v := ?vo_4_5) (some 10) rfl rfl (by kernel_rfl) (by kernel_rfl) (by kernel_rfl) (fun _ _ _ h => h) (by rfl) ?hvo_4_5 ?resto_4_5
      case hvo_4_5 => (intro w' hb; go_simp; try with_reducible rfl)
      simp only [Act.put, List.setIfInBounds_toArray, List.set_cons_zero, List.set_cons_succ]
      refine wpAnyF_take (i := 5) (v := ?vo_5_6) (some 11) rfl rfl (by kernel_rfl) (by kernel_rfl) (by kernel_rfl) (fun _ _ _ h => h) (by rfl) ?hvo_5_6 ?resto_5_6
      case hvo_5_6 => (intro w' hb; go_simp; try with_reducible rfl)
      simp only [Act.put, List.setIfInBounds_toArray, List.set_cons_zero, List.set_cons_succ]
      refine wpAnyF_take (i := 6) (v := ?vo_6_7) (some 12) rfl rfl (by kernel_rfl) (by kernel_rfl) (by kernel_rfl) (fun _ _ _ h => h) (by rfl) ?hvo_6_7 ?resto_6_7
      case hvo_6_7 => (intro w' hb; go_simp; try with_reducible rfl)
      simp only [Act.put, List.setIfInBounds_toArray, List.set_cons_zero, List.set_cons_succ]
      refine wpAnyF_take (i := 7) (v := ?vo_7_8) (some 13) rfl rfl (by kernel_rfl) (by kernel_rfl) (by kernel_rfl) (fun _ _ _ h => h) (by rfl) ?hvo_7_8 ?resto_7_8
      case hvo_7_8 => (intro w' hb; (have hcw := (hb.cell (p := ⟨g, 2, none⟩) hgl).trans k2; go_simp; try with_reducible rfl))
      simp only [Act.put, List.setIfInBounds_toArray, List.set_cons_zero, List.set_cons_succ]
      refine wpAnyF_take (i := 8) (v := ?vo_8_9) (some 14) rfl rfl (by kernel_rfl) (by kernel_rfl) (by kernel_rfl) (fun _ _ _ h => h) (by rfl) ?hvo_8_9 ?resto_8_9
      case hvo_8_9 => (intro w' hb; go_simp; rw [if_pos (Nat.le_of_lt hfm)])
      simp only [Act.put, List.setIfInBounds_toArray, List.set_cons_zero, List.set_cons_succ]
      refine wpAnyF_take (i := 9) (v := ?vo_9_10) (some 15) rfl rfl (by kernel_rfl) (by kernel_rfl) (by kernel_rfl) (fun _ _ _ h => h) (by rfl) ?hvo_9_10 ?resto_9_10
      case hvo_9_10 => (intro w' hb; go_simp; try with_reducible rfl)
      simp only [Act.put, List.setIfInBounds_toArray, List.set_cons_zero, List.set_cons_succ]
      refine wpAnyF_take (i := 10) (v := ?vo_10_11) (some 16) rfl rfl (by kernel_rfl) (by kernel_rfl) (by kernel_rfl) (fun _ _ _ h => h) (by rfl) ?hvo_10_11 ?resto_10_11
      case hvo_10_11 => (intro w' hb; go_simp; try with_reducible rfl)
      simp only [Act.put, List.setIfInBounds_toArray, List.set_cons_zero, List.set_cons_succ]
      refine wpAnyF_take (i := 11) (v := ?vo_11_12) (some 17) rfl rfl (by kernel_rfl) (by kernel_rfl) (by kernel_rfl) (fun _ _ _ h => h) (by rfl) ?hvo_11_12 ?resto_11_12
      case hvo_11_12 => (intro w' hb; go_simp; try with_reducible rfl)
      simp only [Act.put, List.setIfInBounds_toArray, List.set_cons_zero, List.set_cons_succ]
      refine wpAnyF_take (i := 12) (v := ?vo_12_13) (some 18) rfl rfl (by kernel_rfl) (by kernel_rfl) (by kernel_rfl) (fun _ _ _ h => h) (by rfl) ?hvo_12_13 ?resto_12_13
      case hvo_12_13 => (intro w' hb; (have hcw := (hb.cell (p := ⟨g, 1, none⟩) hgl).trans k1; go_simp; try with_reducible rfl))
      simp only [Act.put, List.setIfInBounds_toArray, List.set_cons_zero, List.set_cons_succ]
      refine wpAnyF_take (i := 13) (v := ?vo_13_14) (some 19) rfl rfl (by kernel_rfl) (by kernel_rfl) (by kernel_rfl) (fun _ _ _ h => h) (by rfl) ?hvo_13_14 ?resto_13_14
      case hvo_13_14 => (intro w' hb; go_simp; try with_reducible rfl)
      simp only [Act.put, List.setIfInBounds_toArray, List.set_cons_zero, List.set_cons_succ]
      refine wpAnyF_take (i := 14) (v := ?vo_14_15) (some 20) rfl rfl (by kernel_rfl) (by kernel_rfl) (by kernel_rfl) (fun _ _ _ h => h) (by rfl) ?hvo_14_15 ?resto_14_15
      case hvo_14_15 => (intro w' hb; go_simp; try with_reducible rfl)
      simp only [Act.put, List.setIfInBounds_toArray, List.set_cons_zero, List.set_cons_succ]
      refine wpAnyF_take (i := 15) (v := ?vo_15_16) (some 21) rfl rfl (by kernel_rfl) (by kernel_rfl) (by kernel_rfl) (fun _ _ _ h => h) (by rfl) ?hvo_15_16 ?resto_15_16
      case hvo_15_16 => (intro w' hb; go_simp; try with_reducible rfl)
      simp only [Act.put, List.setIfInBounds_toArray, List.set_cons_zero, List.set_cons_succ]
      refine wpAnyF_take (i := 16) (v := ?vo_16_17) (some 22) rfl rfl (by kernel_rfl) (by kernel_rfl) (by kernel_rfl) (fun _ _ _ h => h) (by rfl) ?hvo_16_17 ?resto_16_17
      case hvo_16_17 => (intro w' hb; (have hcw := (hb.cell (p := ⟨g, 2, none⟩) hgl).trans k2; go_simp; try with_reducible rfl))
      simp only [Act.put, List.setIfInBounds_toArray, List.set_cons_zero, List.set_cons_succ]
      refine wpAnyF_take (i := 17) (v := ?vo_17_18) (some 23) rfl rfl (by kernel_rfl) (by kernel_rfl) (by kernel_rfl) (fun _ _ _ h => h) (by rfl) ?hvo_17_18 ?resto_17_18
      case hvo_17_18 => (intro w' hb; go_simp; first | (with_reducible rfl) | (rw [if_pos (show f ≤ uc by omega)]))
      simp only [Act.put, List.setIfInBounds_toArray, List.set_cons_zero, List.set_cons_succ]
      refine wpAnyF_alone (i := 18) rfl (by kernel_rfl) (by rfl) (fun K hK => ?_)
      go_simp
      have hb : Below w.heap.size w.drew (w.drew.alloc (.cells #[.slice (some ⟨g', f * 11, none⟩) (m - f) (uc - f), .slice (some ⟨g', 0, none⟩) f uc] 60)) := (Below.refl _ _).alloc (by simp) _
      refine hK.out _ _ hb ?_
      clear hK K
      simp only [List.setIfInBounds_toArray, List.set_cons_zero, List.set_cons_succ]
      refine wpAnyF_alone (i := 19) rfl (by kernel_rfl) (by rfl) (fun K hK => ?_)
      go_simp
      have hbw : Below w.heap.size w (w.drew.alloc (.cells #[.slice (some ⟨g', f * 11, none⟩) (m - f) (uc - f), .slice (some ⟨g', 0, none⟩) f uc] 60)) := ((Below.refl _ w).drew).alloc (by simp) _
      refine (concat_any w.drew.heap.size _ _ _ _ _ (heap_alloc_new w.drew _) (PA.out.later hbw) (PB.out.later hbw) HL1.out HL2.out HN.out).mono ?_
      rintro e w4 ⟨u, rfl, hb4, hrow⟩
      have hb : Below w.heap.size (w.drew.alloc (.cells #[.slice (some ⟨g', f * 11, none⟩) (m - f) (uc - f), .slice (some ⟨g', 0, none⟩) f uc] 60)) w4 := hb4.mono (by simp)
      refine hK.out _ _ hb ?_
      clear hK K
      simp only [List.setIfInBounds_toArray, List.set_cons_zero, List.set_cons_succ]
      refine wpAnyF_take (i := 20) (v := ?vo_20_19) (some 2) rfl rfl (by kernel_rfl) (by kernel_rfl) (by kernel_rfl) (fun _ _ _ h => h) (by rfl) ?hvo_20_19 ?resto_20_19
      case hvo_20_19 => (intro w' hb; go_simp; try with_reducible rfl)
      simp only [Act.put, List.setIfInBounds_toArray, List.set_cons_zero, List.set_cons_succ]
      refine wpAnyF_done (by kernel_rfl) ?_ _
      go_wp2
      go_ret
      exact ⟨_, rfl, hbw.trans hb, by rw [← HRL.out]; exact own_base hrow (by simp)⟩
end Go.Proofs.YtecbfegohdllbaaDoor
end
section
/- Layer 47 (log): a report stored into a row of reports; what an Add leaves: plain facts. -/
namespace Go.Proofs.YtecbfegohdllbaaDoor
open Go.RowKit
set_option linter.unusedVariables false
set_option linter.unusedSimpArgs false
/-- only block g and the row's block may have turned -/
structure Kept (g : Nat) (r : Option Nat) (A B : World) : Prop where
  os : B.os = A.os
  tape : B.tape = A.tape
  output : B.output = A.output
  size : A.heap.size ≤ B.heap.size
  block : ∀ k, k < A.heap.size → k ≠ g → r ≠ some k → B.heap[k]? = A.heap[k]?
section
variable {g : Nat} {r : Option Nat} {A B C : World}
theorem Kept.of_below (h : Below A.heap.size A B) : Kept g r A B := ⟨h.os, h.tape, h.output, h.size, fun k hk _ _ => h.block k hk⟩
theorem Kept.trans (h : Kept g r A B) (k : Kept g r B C) : Kept g r A C :=
  ⟨k.os.trans h.os, k.tape.trans h.tape, k.output.trans h.output, Nat.le_trans h.size k.size, fun i hi h1 h2 => (k.block i (Nat.lt_of_lt_of_le hi h.size) h1 h2).trans (h.block i hi h1 h2)⟩
theorem Kept.below {N : Nat} (h : Kept g r A B) (hN : N ≤ A.heap.size) (hg : N ≤ g) (hr : ∀ j, r = some j → N ≤ j) : Below N A B :=
  ⟨h.os, h.tape, h.output, h.size, fun k hk => h.block k (by omega) (by omega) (fun e => by have := hr k e; omega)⟩
theorem Kept.set (h : Kept g r A B) (j : Nat) (v : Value) : Kept g r A (B.setCell ⟨g, j, none⟩ v) :=
  ⟨h.os, h.tape, h.output, by simpa using h.size, fun k hk h1 h2 => (Below.heap_setCell _ _ _ k (by simpa using h1)).trans (h.block k hk h1 h2)⟩
theorem Kept.drew (h : Kept g r A B) : Kept g r A B.drew := ⟨h.os, h.tape, h.output, h.size, h.block⟩
theorem Kept.setRow {j : Nat} (h : Kept g r A B) (hj : r = some j) (cs : Array Value) : Kept g r A (B.setRow j cs) :=
  ⟨h.os, h.tape, h.output, by simpa using h.size, fun k hk h1 h2 => (setRow_other _ _ _ _ (fun e => h2 (by rw [hj, e]))).trans (h.block k hk h1 h2)⟩
theorem Kept.grown (h : A.grownBy B r) : Kept g r A B := ⟨h.os, h.tape, h.output, h.size, fun k hk _ h2 => h.block k hk (fun e => h2 (by first | exact e | exact e.symm))⟩
end
theorem wp_store_in {o : Oper} {a : Act} {w : World} {K : Act → World → Prop} {Q : Exit → Act → World → Prop} (x y : Operand) (ho : o.op = .store 50 x y) (g off : Nat) (t : TypeId) (cur : Array Value) (Z : List Int) (hZ : Z.length = 11)
    (hx : a.eval x = .pointer (some ⟨g, off, none⟩)) (hy : a.eval y = .agg (rcells Z)) (hg : w.heap[g]? = some (.cells cur t (0, 0))) (hfit : off + 11 ≤ cur.size)
    (h : K (a.put o.dst undef) (w.setRow g (cur.toList.take off ++ (rcells Z).toList ++ cur.toList.drop (off + 11)).toArray)) : o.wp Tryd.prog a w K Q := by
  obtain ⟨i0, hi0, hz0, hz1, hz2⟩ := info_parts Tryd.infoRep
  have hs : (rcells Z).size = 11 := rcells_size Z hZ
  have h1 := rcells_one Z
  have this := run_storeCells_at Tryd.prog g off t (rcells Z).toList 0 cur w hg (by simp [hs]; omega) (fun v hv => (Array.all_eq_true_iff_forall_mem.1 h1) v (by simpa using hv))
  have hrun : (Instr.storeAt 50 (.pointer (some ⟨g, off, none⟩)) (.agg (rcells Z))).run Tryd.prog w = .ok () (w.setRow g (cur.toList.take off ++ (rcells Z).toList ++ cur.toList.drop (off + 11)).toArray) := by
    simp only [Nat.add_zero, Array.length_toList, hs] at this
    have hs' : (rcells Z).size = i0.size := by rw [hs, hz1]
    simp [Instr.storeAt, Instr.sureAddr, storeVar, sizeOf, typeInfo, hi0, Value.cells, hs', this]
  unfold Oper.wp execOp
  simp only [ho, hx, hy, Sem.run_bind, Sem.run_pure, Result.andThen_ok, hrun]
  exact h
theorem repCells_len (r : List (List Int)) (h : ∀ Z ∈ r, Z.length = 11) : (repCells r).length = r.length * 11 := by
  induction r with
  | nil => rfl
  | cons Z r ih =>
    have h1 := rcells_list_len Z (h Z List.mem_cons_self)
    have h2 := ih (fun Y hY => h Y (List.mem_cons_of_mem _ hY))
    unfold repCells at *
    rw [List.flatMap_cons, List.length_append, h1, h2, List.length_cons]
    omega
theorem repCells_set (R : List (List Int)) (hl : ∀ Z ∈ R, Z.length = 11) (f : Nat) (hf : f < R.length) (Z : List Int) :
    repCells (R.set f Z) = (repCells R).take (11 * f) ++ (rcells Z).toList ++ (repCells R).drop (11 * f + 11) := by
  have h1 : R = R.take f ++ R[f] :: R.drop (f + 1) := by simp
  have h2 : R.set f Z = R.take f ++ Z :: R.drop (f + 1) := by rw [List.set_eq_take_append_cons_drop, if_pos hf]
  have e1 : (repCells (R.take f)).length = 11 * f := by
    rw [repCells_len _ (fun Z hZ => hl Z (List.mem_of_mem_take hZ)), List.length_take, Nat.min_eq_left (Nat.le_of_lt hf), Nat.mul_comm]
  have e2 : (rcells R[f]).toList.length = 11 := by rw [rcells_list_len _ (hl _ (List.getElem_mem hf))]
  have e3 : repCells R = repCells (R.take f) ++ ((rcells R[f]).toList ++ repCells (R.drop (f + 1))) := by
    conv => lhs; rw [h1]
    rw [repCells_app]
    rfl
  have e4 : repCells (R.set f Z) = repCells (R.take f) ++ ((rcells Z).toList ++ repCells (R.drop (f + 1))) := by
    rw [h2, repCells_app]
    rfl
  rw [e4, e3, List.take_left' e1, List.append_assoc]
  congr 2
  rw [← List.append_assoc, List.drop_left' (by rw [List.length_append, e1, e2])]
theorem take_put {α : Type} (cur z X : List α) (k d m : Nat) (hz : z.length = d) (hX : cur.take m = X) (hk : k + d ≤ m) (hm : m ≤ cur.length) : (cur.take k ++ z ++ cur.drop (k + d)).take m = X.take k ++ z ++ X.drop (k + d) := by
  subst hX
  rw [List.take_take, Nat.min_eq_left (by omega), List.drop_take, List.take_append, List.take_of_length_le (by simp; omega)]
  congr 2
  simp
  omega
theorem rows_set {W : World} {base : Nat} {u : Value} {R : List (List Int)} {f : Nat} {Z : List Int} (h : Rows' base W u R) (hl : ∀ Z ∈ R, Z.length = 11) (hZ : Z.length = 11) (hf : f < R.length) :
    ∃ g c cur, u = .slice (some ⟨g, 0, none⟩) R.length c ∧ base ≤ g ∧ W.heap[g]? = some (.cells cur 50 (0, 0)) ∧ 11 * f + 11 ≤ cur.size ∧ R.length ≤ c ∧
      ∀ W' : World, W'.heap[g]? = some (.cells cur 50 (0, 0)) → Rows' base (W'.setRow g (cur.toList.take (11 * f) ++ (rcells Z).toList ++ cur.toList.drop (11 * f + 11)).toArray) u (R.set f Z) := by
  rcases h.2 with ⟨-, h0⟩ | ⟨g, c, cur, rfl, h1, h2, h3, h4, h5, h6⟩
  · omega
  · refine ⟨g, c, cur, rfl, h1, h2, by omega, h3, fun W' hW' => ⟨?_, .inr ⟨g, c, _, by rw [List.length_set], h1, setRow_heap _ _ _ _ _ _ hW', by rw [List.length_set]; exact h3, h4, ?_, ?_⟩⟩⟩
    · rw [repCells_len]
      intro Y hY
      rcases List.mem_or_eq_of_mem_set hY with h | rfl
      · exact hl Y h
      · exact hZ
    · have hs : (rcells Z).size = 11 := rcells_size Z hZ
      simp [hs]
      omega
    · rw [List.length_set, repCells_set R hl f hf Z]
      exact take_put cur.toList (rcells Z).toList (repCells R) (11 * f) 11 (R.length * 11) (by rw [rcells_list_len Z hZ]) h6 (by omega) (by simp; have := Nat.mul_le_mul_right 11 h3; omega)
theorem ring_more (R : List (List Int)) (Z : List Int) : ringL (R ++ [Z]) 0 = ringL R 0 ++ [Z] := by simp [ringL]
theorem ring_over (R : List (List Int)) (Z : List Int) (f : Nat) (hf : f < R.length) : ringL (R.set f Z) ((f + 1) % R.length) = (ringL R f).drop 1 ++ [Z] := by
  have h1 : R.drop f = R[f] :: R.drop (f + 1) := List.drop_eq_getElem_cons hf
  have h2 : R.set f Z = R.take f ++ Z :: R.drop (f + 1) := by rw [List.set_eq_take_append_cons_drop, if_pos hf]
  have h4 : (R.take f).length = f := by simp; omega
  unfold ringL
  rw [h1]
  by_cases h : f + 1 = R.length
  · have h3 : R.drop (f + 1) = [] := List.drop_eq_nil_of_le (by omega)
    rw [h, Nat.mod_self, h2, ← h, h3]
    simp
  · rw [Nat.mod_eq_of_lt (by omega), h2]
    have e1 : (R.take f ++ Z :: R.drop (f + 1)).drop (f + 1) = R.drop (f + 1) := by
      rw [List.drop_append, List.drop_of_length_le (by omega), h4]
      simp
    have e2 : (R.take f ++ Z :: R.drop (f + 1)).take (f + 1) = R.take f ++ [Z] := by
      rw [List.take_append, List.take_of_length_le (by omega), h4]
      simp
    rw [e1, e2]
    show _ = (R.drop (f + 1) ++ R.take f) ++ [Z]
    rw [List.append_assoc]
end Go.Proofs.YtecbfegohdllbaaDoor
end
