/- The iterator over a sample's numbers: nine places, in order. -/
import Derived.Test.YtecbfegohdllbaaDoorPackA
import Derived.RangeFuncNested
import Derived.RangeFuncBound
import Derived.RangeFuncLeaves
import Derived.Shelf.Abstract
import Derived.OwnWalkIn
import Derived.TacticsInMore
import Derived.LoopNIn
import Derived.LoopIn
import Derived.Deep.QuietTactic
import Derived.BigQuiet
namespace Go.Proofs.YtecbfegohdllbaaDoor
open Go.RowKit Go.Shelf
set_option linter.unusedVariables false
set_option linter.unusedSimpArgs false
attribute [local go_sem] Oper.semAt_some
theorem below_drewN {B : Nat} {a w : World} (h : Below B a w) (n : Nat) : Below B a (w.drewN n) := ⟨h.os, h.tape, h.output, h.size, h.block⟩
theorem abides_drewN {β : Type} {B : Nat} {J : β → World → Prop} (hJ : AbidesFrom B J) {s : β} {W : World} (h : J s W) (n : Nat) : J s (W.drewN n) :=
  hJ s W (W.drewN n) none h ⟨rfl, rfl, rfl, Nat.le_refl _, fun _ _ _ => rfl⟩ (fun r e => by cases e)
abbrev nineE (b : Nat) (k : Fin 9) : Array Value := #[.int .i64 (k.val : Int), .pointer (some ⟨b, k.val, none⟩)]
/-- the first of the nine -/
def upTo (k : Nat) : List (Fin 9) := (List.finRange 9).take k
theorem upTo_snoc : ∀ k : Fin 9, upTo k.val ++ [k] = upTo (k.val + 1) := by decide
set_option maxRecDepth 100000 in
set_option maxHeartbeats 1000000 in
theorem all_stops (n b Bn : Nat) (hn : 1 ≤ n) (w : World) (hB : Bn < w.heap.size) (hc : w.cell? ⟨Bn, 0, none⟩ = some (.pointer (some ⟨b, 0, none⟩))) (Kp : World → World → Prop) :
    SeqStopsK Fence.wide n Tryd.prog 94 #[.pointer (some ⟨Bn, 0, none⟩)] (nineE b) Kp (fun xs => xs = upTo 9) (fun pre => ∃ k, pre = upTo k) 9 w := fun l J Jx W hW hJ hJx hY h0 => by
  have hcW : W.cell? ⟨Bn, 0, none⟩ = some (.pointer (some ⟨b, 0, none⟩)) := (hW.cell (p := ⟨Bn, 0, none⟩) hB).trans hc
  have HY := hid hY
  clear hY hc
  refine callsIn_of_wp Tryd.func94 rfl trivial ?_ rfl
  simp only [Tryd.ntmps94, List.size_toArray, List.length_cons, List.length_nil, Nat.reduceAdd, Nat.reduceSub, Array.replicate_succ, Array.replicate_zero, List.push_toArray, List.append_toArray, List.nil_append, List.cons_append]
  gi_wp2
  refine wpIn_wide.2 ?_
  go_quiet (fail)
  have i0 : ∀ w, (Instr.index 137 (.agg #[.pointer (some ⟨b, 0, none⟩), .pointer (some ⟨b, 3, none⟩), .pointer (some ⟨b, 6, none⟩)]) (.int .i64 0)).run Tryd.prog w = .ok (.pointer (some ⟨b, 0, none⟩)) w := fun _ => by kernel_rfl
  have i1 : ∀ w, (Instr.index 137 (.agg #[.pointer (some ⟨b, 0, none⟩), .pointer (some ⟨b, 3, none⟩), .pointer (some ⟨b, 6, none⟩)]) (.int .i64 1)).run Tryd.prog w = .ok (.pointer (some ⟨b, 3, none⟩)) w := fun _ => by kernel_rfl
  have i2 : ∀ w, (Instr.index 137 (.agg #[.pointer (some ⟨b, 0, none⟩), .pointer (some ⟨b, 3, none⟩), .pointer (some ⟨b, 6, none⟩)]) (.int .i64 2)).run Tryd.prog w = .ok (.pointer (some ⟨b, 6, none⟩)) w := fun _ => by kernel_rfl
  gi_wp2
  gi_loopw [16] (fun i wr => ∃ a : Nat, a ≤ 3 ∧ i = .int .i64 a ∧ J (upTo (3 * a)) wr) (fun i _ => 3 - (intOf i).toNat)
  case atStart => exact ⟨0, by omega, rfl, abides_drewN hJ h0 _⟩
  case round =>
    obtain ⟨a, ha, rfl, hJa⟩ := hrel
    rcases (show a = 0 ∨ a = 1 ∨ a = 2 ∨ a = 3 by omega) with rfl | rfl | rfl | rfl
    · gi_wp2
      gi_loopw [20] (fun k wr2 => ∃ c : Nat, c ≤ 3 ∧ k = .int .i64 c ∧ J (upTo (0 + c)) wr2) (fun k _ => 3 - (intOf k).toNat)
      case atStart => exact ⟨0, by omega, rfl, hJa⟩
      case round =>
        obtain ⟨c, hc3, rfl, hJc⟩ := hrel
        rcases (show c = 0 ∨ c = 1 ∨ c = 2 ∨ c = 3 by omega) with rfl | rfl | rfl | rfl
        · obtain ⟨fn, tmps, assign, body, hy, hR⟩ := HY.out (upTo 0) 0 _ hJc (by decide)
          replace hy : (Instr.yield l #[.int .i64 0, .pointer (some ⟨b, 0, none⟩)]).run Tryd.prog _ = _ := hy
          have HR := hid hR
          clear hR
          gi_wp2
          refine HR.out.mono ?_
          rintro e W3 (⟨rfl, hJ3, hk3⟩ | ⟨rfl, hJx3⟩)
          · rw [show upTo 0 ++ [0] = upTo 1 from by decide] at hJ3
            gi_wp2
            go_roundw
            case rel => first | exact ⟨1, by omega, rfl, hJ3⟩ | (refine ⟨_, _, _, _, _, _, _, _, _, _, _, _, _, _, _, _, ⟨1, by omega, rfl, hJ3⟩, rfl⟩)
            case measure => simp [intOf]
          · gi_wp2
            refine bodyPost_ret (results_none rfl _ _ _) rfl ?_
            exact ⟨⟨_, rfl⟩, .inr ⟨_, ⟨1, by decide⟩, hJx3⟩⟩
        · obtain ⟨fn, tmps, assign, body, hy, hR⟩ := HY.out (upTo 1) 1 _ hJc (by decide)
          replace hy : (Instr.yield l #[.int .i64 1, .pointer (some ⟨b, 1, none⟩)]).run Tryd.prog _ = _ := hy
          have HR := hid hR
          clear hR
          gi_wp2
          refine HR.out.mono ?_
          rintro e W3 (⟨rfl, hJ3, hk3⟩ | ⟨rfl, hJx3⟩)
          · rw [show upTo 1 ++ [1] = upTo 2 from by decide] at hJ3
            gi_wp2
            go_roundw
            case rel => first | exact ⟨2, by omega, rfl, hJ3⟩ | (refine ⟨_, _, _, _, _, _, _, _, _, _, _, _, _, _, _, _, ⟨2, by omega, rfl, hJ3⟩, rfl⟩)
            case measure => simp [intOf]
          · gi_wp2
            refine bodyPost_ret (results_none rfl _ _ _) rfl ?_
            exact ⟨⟨_, rfl⟩, .inr ⟨_, ⟨2, by decide⟩, hJx3⟩⟩
        · obtain ⟨fn, tmps, assign, body, hy, hR⟩ := HY.out (upTo 2) 2 _ hJc (by decide)
          replace hy : (Instr.yield l #[.int .i64 2, .pointer (some ⟨b, 2, none⟩)]).run Tryd.prog _ = _ := hy
          have HR := hid hR
          clear hR
          gi_wp2
          refine HR.out.mono ?_
          rintro e W3 (⟨rfl, hJ3, hk3⟩ | ⟨rfl, hJx3⟩)
          · rw [show upTo 2 ++ [2] = upTo 3 from by decide] at hJ3
            gi_wp2
            go_roundw
            case rel => first | exact ⟨3, by omega, rfl, hJ3⟩ | (refine ⟨_, _, _, _, _, _, _, _, _, _, _, _, _, _, _, _, ⟨3, by omega, rfl, hJ3⟩, rfl⟩)
            case measure => simp [intOf]
          · gi_wp2
            refine bodyPost_ret (results_none rfl _ _ _) rfl ?_
            exact ⟨⟨_, rfl⟩, .inr ⟨_, ⟨3, by decide⟩, hJx3⟩⟩
        · gi_wp2
          go_roundw
          case rel => exact ⟨1, by omega, rfl, hJc⟩
          case measure => simp [intOf]
    · gi_wp2
      gi_loopw [20] (fun k wr2 => ∃ c : Nat, c ≤ 3 ∧ k = .int .i64 c ∧ J (upTo (3 + c)) wr2) (fun k _ => 3 - (intOf k).toNat)
      case atStart => exact ⟨0, by omega, rfl, hJa⟩
      case round =>
        obtain ⟨c, hc3, rfl, hJc⟩ := hrel
        rcases (show c = 0 ∨ c = 1 ∨ c = 2 ∨ c = 3 by omega) with rfl | rfl | rfl | rfl
        · obtain ⟨fn, tmps, assign, body, hy, hR⟩ := HY.out (upTo 3) 3 _ hJc (by decide)
          replace hy : (Instr.yield l #[.int .i64 3, .pointer (some ⟨b, 3, none⟩)]).run Tryd.prog _ = _ := hy
          have HR := hid hR
          clear hR
          gi_wp2
          refine HR.out.mono ?_
          rintro e W3 (⟨rfl, hJ3, hk3⟩ | ⟨rfl, hJx3⟩)
          · rw [show upTo 3 ++ [3] = upTo 4 from by decide] at hJ3
            gi_wp2
            go_roundw
            case rel => first | exact ⟨1, by omega, rfl, hJ3⟩ | (refine ⟨_, _, _, _, _, _, _, _, _, _, _, _, _, _, _, _, ⟨1, by omega, rfl, hJ3⟩, rfl⟩)
            case measure => simp [intOf]
          · gi_wp2
            refine bodyPost_ret (results_none rfl _ _ _) rfl ?_
            exact ⟨⟨_, rfl⟩, .inr ⟨_, ⟨4, by decide⟩, hJx3⟩⟩
        · obtain ⟨fn, tmps, assign, body, hy, hR⟩ := HY.out (upTo 4) 4 _ hJc (by decide)
          replace hy : (Instr.yield l #[.int .i64 4, .pointer (some ⟨b, 4, none⟩)]).run Tryd.prog _ = _ := hy
          have HR := hid hR
          clear hR
          gi_wp2
          refine HR.out.mono ?_
          rintro e W3 (⟨rfl, hJ3, hk3⟩ | ⟨rfl, hJx3⟩)
          · rw [show upTo 4 ++ [4] = upTo 5 from by decide] at hJ3
            gi_wp2
            go_roundw
            case rel => first | exact ⟨2, by omega, rfl, hJ3⟩ | (refine ⟨_, _, _, _, _, _, _, _, _, _, _, _, _, _, _, _, ⟨2, by omega, rfl, hJ3⟩, rfl⟩)
            case measure => simp [intOf]
          · gi_wp2
            refine bodyPost_ret (results_none rfl _ _ _) rfl ?_
            exact ⟨⟨_, rfl⟩, .inr ⟨_, ⟨5, by decide⟩, hJx3⟩⟩
        · obtain ⟨fn, tmps, assign, body, hy, hR⟩ := HY.out (upTo 5) 5 _ hJc (by decide)
          replace hy : (Instr.yield l #[.int .i64 5, .pointer (some ⟨b, 5, none⟩)]).run Tryd.prog _ = _ := hy
          have HR := hid hR
          clear hR
          gi_wp2
          refine HR.out.mono ?_
          rintro e W3 (⟨rfl, hJ3, hk3⟩ | ⟨rfl, hJx3⟩)
          · rw [show upTo 5 ++ [5] = upTo 6 from by decide] at hJ3
            gi_wp2
            go_roundw
            case rel => first | exact ⟨3, by omega, rfl, hJ3⟩ | (refine ⟨_, _, _, _, _, _, _, _, _, _, _, _, _, _, _, _, ⟨3, by omega, rfl, hJ3⟩, rfl⟩)
            case measure => simp [intOf]
          · gi_wp2
            refine bodyPost_ret (results_none rfl _ _ _) rfl ?_
            exact ⟨⟨_, rfl⟩, .inr ⟨_, ⟨6, by decide⟩, hJx3⟩⟩
        · gi_wp2
          go_roundw
          case rel => exact ⟨2, by omega, rfl, hJc⟩
          case measure => simp [intOf]
    · gi_wp2
      gi_loopw [20] (fun k wr2 => ∃ c : Nat, c ≤ 3 ∧ k = .int .i64 c ∧ J (upTo (6 + c)) wr2) (fun k _ => 3 - (intOf k).toNat)
      case atStart => exact ⟨0, by omega, rfl, hJa⟩
      case round =>
        obtain ⟨c, hc3, rfl, hJc⟩ := hrel
        rcases (show c = 0 ∨ c = 1 ∨ c = 2 ∨ c = 3 by omega) with rfl | rfl | rfl | rfl
        · obtain ⟨fn, tmps, assign, body, hy, hR⟩ := HY.out (upTo 6) 6 _ hJc (by decide)
          replace hy : (Instr.yield l #[.int .i64 6, .pointer (some ⟨b, 6, none⟩)]).run Tryd.prog _ = _ := hy
          have HR := hid hR
          clear hR
          gi_wp2
          refine HR.out.mono ?_
          rintro e W3 (⟨rfl, hJ3, hk3⟩ | ⟨rfl, hJx3⟩)
          · rw [show upTo 6 ++ [6] = upTo 7 from by decide] at hJ3
            gi_wp2
            go_roundw
            case rel => first | exact ⟨1, by omega, rfl, hJ3⟩ | (refine ⟨_, _, _, _, _, _, _, _, _, _, _, _, _, _, _, _, ⟨1, by omega, rfl, hJ3⟩, rfl⟩)
            case measure => simp [intOf]
          · gi_wp2
            refine bodyPost_ret (results_none rfl _ _ _) rfl ?_
            exact ⟨⟨_, rfl⟩, .inr ⟨_, ⟨7, by decide⟩, hJx3⟩⟩
        · obtain ⟨fn, tmps, assign, body, hy, hR⟩ := HY.out (upTo 7) 7 _ hJc (by decide)
          replace hy : (Instr.yield l #[.int .i64 7, .pointer (some ⟨b, 7, none⟩)]).run Tryd.prog _ = _ := hy
          have HR := hid hR
          clear hR
          gi_wp2
          refine HR.out.mono ?_
          rintro e W3 (⟨rfl, hJ3, hk3⟩ | ⟨rfl, hJx3⟩)
          · rw [show upTo 7 ++ [7] = upTo 8 from by decide] at hJ3
            gi_wp2
            go_roundw
            case rel => first | exact ⟨2, by omega, rfl, hJ3⟩ | (refine ⟨_, _, _, _, _, _, _, _, _, _, _, _, _, _, _, _, ⟨2, by omega, rfl, hJ3⟩, rfl⟩)
            case measure => simp [intOf]
          · gi_wp2
            refine bodyPost_ret (results_none rfl _ _ _) rfl ?_
            exact ⟨⟨_, rfl⟩, .inr ⟨_, ⟨8, by decide⟩, hJx3⟩⟩
        · obtain ⟨fn, tmps, assign, body, hy, hR⟩ := HY.out (upTo 8) 8 _ hJc (by decide)
          replace hy : (Instr.yield l #[.int .i64 8, .pointer (some ⟨b, 8, none⟩)]).run Tryd.prog _ = _ := hy
          have HR := hid hR
          clear hR
          gi_wp2
          refine HR.out.mono ?_
          rintro e W3 (⟨rfl, hJ3, hk3⟩ | ⟨rfl, hJx3⟩)
          · rw [show upTo 8 ++ [8] = upTo 9 from by decide] at hJ3
            gi_wp2
            go_roundw
            case rel => first | exact ⟨3, by omega, rfl, hJ3⟩ | (refine ⟨_, _, _, _, _, _, _, _, _, _, _, _, _, _, _, _, ⟨3, by omega, rfl, hJ3⟩, rfl⟩)
            case measure => simp [intOf]
          · gi_wp2
            refine bodyPost_ret (results_none rfl _ _ _) rfl ?_
            exact ⟨⟨_, rfl⟩, .inr ⟨_, ⟨9, by decide⟩, hJx3⟩⟩
        · gi_wp2
          go_roundw
          case rel => exact ⟨3, by omega, rfl, hJc⟩
          case measure => simp [intOf]
    · gi_wp2
      go_end0
      exact ⟨⟨_, rfl⟩, .inl ⟨_, rfl, hJa⟩⟩
end Go.Proofs.YtecbfegohdllbaaDoor
