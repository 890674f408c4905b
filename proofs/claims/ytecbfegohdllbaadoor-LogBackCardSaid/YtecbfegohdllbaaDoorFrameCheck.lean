/- Layer 36 (frame): check and number: contracts. -/
import Derived.Test.YtecbfegohdllbaaDoorFrameNum
namespace Go.Proofs.YtecbfegohdllbaaDoor
open Go.RowKit
set_option linter.unusedVariables false
set_option linter.unusedSimpArgs false
theorem run_index_cells {P : Program} (w : World) {t e : TypeId} {n : Nat} (k : IntKind) (j : Nat) (cs : Array Value) (v : Value) (ht : P.underlying t = some (.array n e)) (hk : P.plainKey e = true) (hs : (P.info? e).map (·.size) = some 1) (hj : j < n) (hv : cs[j]? = some v) :
    (Instr.index t (.agg cs) (.int k (j : Int))).run P w = .ok v w := by
  cases hq : P.info? e with
  | none => rw [hq] at hs; cases hs
  | some i =>
    rw [hq] at hs
    have hz : i.size = 1 := by simpa using hs
    have hj' : (j : Int) < (n : Int) := by omega
    have hp := run_part_plain (P := P) w hk hv
    simp [Instr.index, asIntOf, run_underlying ht, sizeOf, typeInfo, run_program, hq, hz, hp, hj]
@[local go_sem] theorem ix_A4int_0 (c0 c1 c2 c3 : Int) (w : World) : (Instr.index 143 (.agg #[.int .i64 c0, .int .i64 c1, .int .i64 c2, .int .i64 c3]) (.int .i64 0)).run Tryd.prog w = .ok (.int .i64 c0) w := run_index_cells w .i64 0 _ _ Tryd.underlying143 (by kernel_rfl) (by kernel_rfl) (by decide) rfl
@[local go_sem] theorem ix_A4int_1 (c0 c1 c2 c3 : Int) (w : World) : (Instr.index 143 (.agg #[.int .i64 c0, .int .i64 c1, .int .i64 c2, .int .i64 c3]) (.int .i64 1)).run Tryd.prog w = .ok (.int .i64 c1) w := run_index_cells w .i64 1 _ _ Tryd.underlying143 (by kernel_rfl) (by kernel_rfl) (by decide) rfl
@[local go_sem] theorem ix_A4int_2 (c0 c1 c2 c3 : Int) (w : World) : (Instr.index 143 (.agg #[.int .i64 c0, .int .i64 c1, .int .i64 c2, .int .i64 c3]) (.int .i64 2)).run Tryd.prog w = .ok (.int .i64 c2) w := run_index_cells w .i64 2 _ _ Tryd.underlying143 (by kernel_rfl) (by kernel_rfl) (by decide) rfl
@[local go_sem] theorem ix_A4int_3 (c0 c1 c2 c3 : Int) (w : World) : (Instr.index 143 (.agg #[.int .i64 c0, .int .i64 c1, .int .i64 c2, .int .i64 c3]) (.int .i64 3)).run Tryd.prog w = .ok (.int .i64 c3) w := run_index_cells w .i64 3 _ _ Tryd.underlying143 (by kernel_rfl) (by kernel_rfl) (by decide) rfl
@[local go_sem] theorem ix_A3int_0 (c0 c1 c2 : Int) (w : World) : (Instr.index 105 (.agg #[.int .i64 c0, .int .i64 c1, .int .i64 c2]) (.int .i64 0)).run Tryd.prog w = .ok (.int .i64 c0) w := run_index_cells w .i64 0 _ _ Tryd.underlying105 (by kernel_rfl) (by kernel_rfl) (by decide) rfl
@[local go_sem] theorem ix_A3int_1 (c0 c1 c2 : Int) (w : World) : (Instr.index 105 (.agg #[.int .i64 c0, .int .i64 c1, .int .i64 c2]) (.int .i64 1)).run Tryd.prog w = .ok (.int .i64 c1) w := run_index_cells w .i64 1 _ _ Tryd.underlying105 (by kernel_rfl) (by kernel_rfl) (by decide) rfl
@[local go_sem] theorem ix_A3int_2 (c0 c1 c2 : Int) (w : World) : (Instr.index 105 (.agg #[.int .i64 c0, .int .i64 c1, .int .i64 c2]) (.int .i64 2)).run Tryd.prog w = .ok (.int .i64 c2) w := run_index_cells w .i64 2 _ _ Tryd.underlying105 (by kernel_rfl) (by kernel_rfl) (by decide) rfl
@[local go_sem] theorem ix_apiQuat_0 (c0 c1 c2 c3 : Int) (w : World) : (Instr.index 48 (.agg #[.int .i32 c0, .int .i32 c1, .int .i32 c2, .int .i32 c3]) (.int .i64 0)).run Tryd.prog w = .ok (.int .i32 c0) w := run_index_cells w .i64 0 _ _ Tryd.underlying48 (by kernel_rfl) (by kernel_rfl) (by decide) rfl
@[local go_sem] theorem ix_apiQuat_1 (c0 c1 c2 c3 : Int) (w : World) : (Instr.index 48 (.agg #[.int .i32 c0, .int .i32 c1, .int .i32 c2, .int .i32 c3]) (.int .i64 1)).run Tryd.prog w = .ok (.int .i32 c1) w := run_index_cells w .i64 1 _ _ Tryd.underlying48 (by kernel_rfl) (by kernel_rfl) (by decide) rfl
@[local go_sem] theorem ix_apiQuat_2 (c0 c1 c2 c3 : Int) (w : World) : (Instr.index 48 (.agg #[.int .i32 c0, .int .i32 c1, .int .i32 c2, .int .i32 c3]) (.int .i64 2)).run Tryd.prog w = .ok (.int .i32 c2) w := run_index_cells w .i64 2 _ _ Tryd.underlying48 (by kernel_rfl) (by kernel_rfl) (by decide) rfl
@[local go_sem] theorem ix_apiQuat_3 (c0 c1 c2 c3 : Int) (w : World) : (Instr.index 48 (.agg #[.int .i32 c0, .int .i32 c1, .int .i32 c2, .int .i32 c3]) (.int .i64 3)).run Tryd.prog w = .ok (.int .i32 c3) w := run_index_cells w .i64 3 _ _ Tryd.underlying48 (by kernel_rfl) (by kernel_rfl) (by decide) rfl
@[local go_sem] theorem ix_A3int32_0 (c0 c1 c2 : Int) (w : World) : (Instr.index 36 (.agg #[.int .i32 c0, .int .i32 c1, .int .i32 c2]) (.int .i64 0)).run Tryd.prog w = .ok (.int .i32 c0) w := run_index_cells w .i64 0 _ _ Tryd.underlying36 (by kernel_rfl) (by kernel_rfl) (by decide) rfl
@[local go_sem] theorem ix_A3int32_1 (c0 c1 c2 : Int) (w : World) : (Instr.index 36 (.agg #[.int .i32 c0, .int .i32 c1, .int .i32 c2]) (.int .i64 1)).run Tryd.prog w = .ok (.int .i32 c1) w := run_index_cells w .i64 1 _ _ Tryd.underlying36 (by kernel_rfl) (by kernel_rfl) (by decide) rfl
@[local go_sem] theorem ix_A3int32_2 (c0 c1 c2 : Int) (w : World) : (Instr.index 36 (.agg #[.int .i32 c0, .int .i32 c1, .int .i32 c2]) (.int .i64 2)).run Tryd.prog w = .ok (.int .i32 c2) w := run_index_cells w .i64 2 _ _ Tryd.underlying36 (by kernel_rfl) (by kernel_rfl) (by decide) rfl
/-- the two sentinels -/
def ErrsAt (w : World) (a0 a1 : Addr) : Prop := w.cell? ⟨1, 0, none⟩ = some (.iface 174 (.pointer (some a0))) ∧ w.cell? ⟨2, 0, none⟩ = some (.iface 174 (.pointer (some a1))) ∧ a0 ≠ a1 ∧
  (∃ c t, w.heap[a0.block]? = some (.cells c t (0, 0))) ∧ (∃ c t, w.heap[a1.block]? = some (.cells c t (0, 0)))
theorem ErrsAt.later {w w' : World} {a0 a1 : Addr} (h : ErrsAt w a0 a1) (hb : Below w.heap.size w w') : ErrsAt w' a0 a1 := by
  obtain ⟨h1, h2, h3, ⟨c, t, h4⟩, ⟨c', t', h5⟩⟩ := h
  exact ⟨(hb.cell (lt_of_cell h1)).trans h1, (hb.cell (lt_of_cell h2)).trans h2, h3, ⟨c, t, (hb.block _ (lt_of_row h4)).trans h4⟩, ⟨c', t', (hb.block _ (lt_of_row h5)).trans h5⟩⟩
theorem num_nil (w : World) : Calls Tryd.prog 71 #[.nilIface] w fun e w' => e = .returned (.int .i64 0) ∧ w = w' := by
  go_enter Tryd.func71, Tryd.ntmps71
  go_wp2
  go_ret
  exact ⟨rfl, rfl⟩
theorem num_range (p : Nat) (a0 a1 : Addr) (w : World) (E : ErrsAt w a0 a1) (h1 : w.cell? ⟨p, 1, none⟩ = some (.iface 174 (.pointer (some a0)))) :
    Calls Tryd.prog 71 #[.iface 144 (.pointer (some ⟨p, 0, none⟩))] w fun e w' => e = .returned (.int .i64 6) ∧ w = w' := by
  have IS := hid (eis_same p a0 w h1)
  have hg := E.1
  clear E h1
  go_enter Tryd.func71, Tryd.ntmps71
  go_wp2_with fail
  refine IS.out.mono ?_
  rintro e w2 ⟨rfl, rfl⟩
  go_wp2
  go_ret
  exact ⟨rfl, rfl⟩
theorem num_form (p : Nat) (a0 a1 : Addr) (w : World) (E : ErrsAt w a0 a1) (h1 : w.cell? ⟨p, 1, none⟩ = some (.iface 174 (.pointer (some a1)))) :
    Calls Tryd.prog 71 #[.iface 144 (.pointer (some ⟨p, 0, none⟩))] w fun e w' => e = .returned (.int .i64 3) ∧ w = w' := by
  obtain ⟨hg, -, hne, ⟨c, t, h4⟩, ⟨c', t', h5⟩⟩ := E
  have IS := hid (eis_other p a1 a0 _ _ _ _ w h1 (fun h => hne h.symm) h5 h4)
  clear hne h4 h5 h1
  go_enter Tryd.func71, Tryd.ntmps71
  go_wp2_with fail
  refine IS.out.mono ?_
  rintro e w2 ⟨rfl, rfl⟩
  go_wp2
  go_ret
  exact ⟨rfl, rfl⟩
/-- a report that may be -/
def Right (f s u g x0 x1 x2 : Int) : Prop := (0 ≤ f ∧ f ≤ 15) ∧ (0 ≤ s ∧ s ≤ 65535) ∧ (0 ≤ u ∧ u ≤ 65535) ∧ (0 ≤ g ∧ g ≤ 65535) ∧ inR x0 ∧ inR x1 ∧ inR x2
theorem half_same (x : Int) (hx : -2147483648 ≤ x ∧ x ≤ 2147483647) : halfI x = x ↔ inR x := by unfold halfI inR; omega
/-- what check answers -/
def CheckPost (R : Prop) (a0 : Addr) (w : World) (e : Ending) (w' : World) : Prop :=
  Below w.heap.size w w' ∧ ((R ∧ e = .returned .nilIface) ∨ (¬ R ∧ ∃ p, e = .returned (.iface 144 (.pointer (some ⟨p, 0, none⟩))) ∧ w'.cell? ⟨p, 1, none⟩ = some (.iface 174 (.pointer (some a0)))))
set_option maxRecDepth 20000 in
set_option maxHeartbeats 1000000 in
theorem check_0 (f s u g q0 q1 q2 q3 x0 x1 x2 : Int) (a0 : Addr) (w : World) (hg : w.cell? ⟨1, 0, none⟩ = some (.iface 174 (.pointer (some a0)))) (n0 : ¬ bits .andNot .i64 f 15 = 0) :
    Calls Tryd.prog 72 #[.agg #[.int .i64 f, .int .i64 s, .int .i64 u, .int .i64 g, .int .i32 q0, .int .i32 q1, .int .i32 q2, .int .i32 q3, .int .i32 x0, .int .i32 x1, .int .i32 x2]] w fun e w' => Below w.heap.size w w' ∧ ∃ p, e = .returned (.iface 144 (.pointer (some ⟨p, 0, none⟩))) ∧ w'.cell? ⟨p, 1, none⟩ = some (.iface 174 (.pointer (some a0))) := by
  have hg2 := (((Below.refl _ w).alloc (Nat.le_refl _) (.cells #[.int .i64 f, .int .i64 s, .int .i64 u, .int .i64 g, .int .i32 q0, .int .i32 q1, .int .i32 q2, .int .i32 q3, .int .i32 x0, .int .i32 x1, .int .i32 x2] 50)).cell (p := ⟨1, 0, none⟩) (lt_of_cell hg)).trans hg
  go_enter Tryd.func72, Tryd.ntmps72
  go_wp2_with fail
  refine wp_loop_rounds 1 ?_
  rw [rounds_succ]
  go_wp2_with (go_at_call 97; refine (half_any _ _).mono ?_; rintro e w3 ⟨rfl, rfl⟩)
  go_ret
  exact ⟨((Below.refl _ w).alloc (Nat.le_refl _) _).alloc (by simp) _, w.heap.size + 1, rfl, (cell_of_row _ (w.heap.size + 1) 1 _ _ _ (heap_alloc2_new w _ _)).trans rfl⟩
set_option maxRecDepth 20000 in
set_option maxHeartbeats 1000000 in
theorem check_1 (f s u g q0 q1 q2 q3 x0 x1 x2 : Int) (a0 : Addr) (w : World) (hg : w.cell? ⟨1, 0, none⟩ = some (.iface 174 (.pointer (some a0)))) (n0 : bits .andNot .i64 f 15 = 0) (n1 : ¬ bits .andNot .i64 s 65535 = 0) :
    Calls Tryd.prog 72 #[.agg #[.int .i64 f, .int .i64 s, .int .i64 u, .int .i64 g, .int .i32 q0, .int .i32 q1, .int .i32 q2, .int .i32 q3, .int .i32 x0, .int .i32 x1, .int .i32 x2]] w fun e w' => Below w.heap.size w w' ∧ ∃ p, e = .returned (.iface 144 (.pointer (some ⟨p, 0, none⟩))) ∧ w'.cell? ⟨p, 1, none⟩ = some (.iface 174 (.pointer (some a0))) := by
  have hg2 := (((Below.refl _ w).alloc (Nat.le_refl _) (.cells #[.int .i64 f, .int .i64 s, .int .i64 u, .int .i64 g, .int .i32 q0, .int .i32 q1, .int .i32 q2, .int .i32 q3, .int .i32 x0, .int .i32 x1, .int .i32 x2] 50)).cell (p := ⟨1, 0, none⟩) (lt_of_cell hg)).trans hg
  go_enter Tryd.func72, Tryd.ntmps72
  go_wp2_with fail
  refine wp_loop_rounds 2 ?_
  rw [rounds_succ]
  go_wp2_with (go_at_call 97; refine (half_any _ _).mono ?_; rintro e w3 ⟨rfl, rfl⟩)
  rw [rounds_succ]
  go_wp2_with (go_at_call 97; refine (half_any _ _).mono ?_; rintro e w3 ⟨rfl, rfl⟩)
  go_ret
  exact ⟨((Below.refl _ w).alloc (Nat.le_refl _) _).alloc (by simp) _, w.heap.size + 1, rfl, (cell_of_row _ (w.heap.size + 1) 1 _ _ _ (heap_alloc2_new w _ _)).trans rfl⟩
set_option maxRecDepth 20000 in
set_option maxHeartbeats 1000000 in
theorem check_2 (f s u g q0 q1 q2 q3 x0 x1 x2 : Int) (a0 : Addr) (w : World) (hg : w.cell? ⟨1, 0, none⟩ = some (.iface 174 (.pointer (some a0)))) (n0 : bits .andNot .i64 f 15 = 0) (n1 : bits .andNot .i64 s 65535 = 0) (n2 : ¬ bits .andNot .i64 u 65535 = 0) :
    Calls Tryd.prog 72 #[.agg #[.int .i64 f, .int .i64 s, .int .i64 u, .int .i64 g, .int .i32 q0, .int .i32 q1, .int .i32 q2, .int .i32 q3, .int .i32 x0, .int .i32 x1, .int .i32 x2]] w fun e w' => Below w.heap.size w w' ∧ ∃ p, e = .returned (.iface 144 (.pointer (some ⟨p, 0, none⟩))) ∧ w'.cell? ⟨p, 1, none⟩ = some (.iface 174 (.pointer (some a0))) := by
  have hg2 := (((Below.refl _ w).alloc (Nat.le_refl _) (.cells #[.int .i64 f, .int .i64 s, .int .i64 u, .int .i64 g, .int .i32 q0, .int .i32 q1, .int .i32 q2, .int .i32 q3, .int .i32 x0, .int .i32 x1, .int .i32 x2] 50)).cell (p := ⟨1, 0, none⟩) (lt_of_cell hg)).trans hg
  go_enter Tryd.func72, Tryd.ntmps72
  go_wp2_with fail
  refine wp_loop_rounds 3 ?_
  rw [rounds_succ]
  go_wp2_with (go_at_call 97; refine (half_any _ _).mono ?_; rintro e w3 ⟨rfl, rfl⟩)
  rw [rounds_succ]
  go_wp2_with (go_at_call 97; refine (half_any _ _).mono ?_; rintro e w3 ⟨rfl, rfl⟩)
  rw [rounds_succ]
  go_wp2_with (go_at_call 97; refine (half_any _ _).mono ?_; rintro e w3 ⟨rfl, rfl⟩)
  go_ret
  exact ⟨((Below.refl _ w).alloc (Nat.le_refl _) _).alloc (by simp) _, w.heap.size + 1, rfl, (cell_of_row _ (w.heap.size + 1) 1 _ _ _ (heap_alloc2_new w _ _)).trans rfl⟩
set_option maxRecDepth 20000 in
set_option maxHeartbeats 1000000 in
theorem check_3 (f s u g q0 q1 q2 q3 x0 x1 x2 : Int) (a0 : Addr) (w : World) (hg : w.cell? ⟨1, 0, none⟩ = some (.iface 174 (.pointer (some a0)))) (n0 : bits .andNot .i64 f 15 = 0) (n1 : bits .andNot .i64 s 65535 = 0) (n2 : bits .andNot .i64 u 65535 = 0) (n3 : ¬ bits .andNot .i64 g 65535 = 0) :
    Calls Tryd.prog 72 #[.agg #[.int .i64 f, .int .i64 s, .int .i64 u, .int .i64 g, .int .i32 q0, .int .i32 q1, .int .i32 q2, .int .i32 q3, .int .i32 x0, .int .i32 x1, .int .i32 x2]] w fun e w' => Below w.heap.size w w' ∧ ∃ p, e = .returned (.iface 144 (.pointer (some ⟨p, 0, none⟩))) ∧ w'.cell? ⟨p, 1, none⟩ = some (.iface 174 (.pointer (some a0))) := by
  have hg2 := (((Below.refl _ w).alloc (Nat.le_refl _) (.cells #[.int .i64 f, .int .i64 s, .int .i64 u, .int .i64 g, .int .i32 q0, .int .i32 q1, .int .i32 q2, .int .i32 q3, .int .i32 x0, .int .i32 x1, .int .i32 x2] 50)).cell (p := ⟨1, 0, none⟩) (lt_of_cell hg)).trans hg
  go_enter Tryd.func72, Tryd.ntmps72
  go_wp2_with fail
  refine wp_loop_rounds 4 ?_
  rw [rounds_succ]
  go_wp2_with (go_at_call 97; refine (half_any _ _).mono ?_; rintro e w3 ⟨rfl, rfl⟩)
  rw [rounds_succ]
  go_wp2_with (go_at_call 97; refine (half_any _ _).mono ?_; rintro e w3 ⟨rfl, rfl⟩)
  rw [rounds_succ]
  go_wp2_with (go_at_call 97; refine (half_any _ _).mono ?_; rintro e w3 ⟨rfl, rfl⟩)
  rw [rounds_succ]
  go_wp2_with (go_at_call 97; refine (half_any _ _).mono ?_; rintro e w3 ⟨rfl, rfl⟩)
  go_ret
  exact ⟨((Below.refl _ w).alloc (Nat.le_refl _) _).alloc (by simp) _, w.heap.size + 1, rfl, (cell_of_row _ (w.heap.size + 1) 1 _ _ _ (heap_alloc2_new w _ _)).trans rfl⟩
set_option maxRecDepth 20000 in
set_option maxHeartbeats 1000000 in
theorem check_4 (f s u g q0 q1 q2 q3 x0 x1 x2 : Int) (a0 : Addr) (w : World) (hg : w.cell? ⟨1, 0, none⟩ = some (.iface 174 (.pointer (some a0)))) (n0 : bits .andNot .i64 f 15 = 0) (n1 : bits .andNot .i64 s 65535 = 0) (n2 : bits .andNot .i64 u 65535 = 0) (n3 : bits .andNot .i64 g 65535 = 0) (k0 : ¬ halfI x0 = x0) :
    Calls Tryd.prog 72 #[.agg #[.int .i64 f, .int .i64 s, .int .i64 u, .int .i64 g, .int .i32 q0, .int .i32 q1, .int .i32 q2, .int .i32 q3, .int .i32 x0, .int .i32 x1, .int .i32 x2]] w fun e w' => Below w.heap.size w w' ∧ ∃ p, e = .returned (.iface 144 (.pointer (some ⟨p, 0, none⟩))) ∧ w'.cell? ⟨p, 1, none⟩ = some (.iface 174 (.pointer (some a0))) := by
  have hg2 := (((Below.refl _ w).alloc (Nat.le_refl _) (.cells #[.int .i64 f, .int .i64 s, .int .i64 u, .int .i64 g, .int .i32 q0, .int .i32 q1, .int .i32 q2, .int .i32 q3, .int .i32 x0, .int .i32 x1, .int .i32 x2] 50)).cell (p := ⟨1, 0, none⟩) (lt_of_cell hg)).trans hg
  go_enter Tryd.func72, Tryd.ntmps72
  go_wp2_with fail
  refine wp_loop_rounds 5 ?_
  rw [rounds_succ]
  go_wp2_with (go_at_call 97; refine (half_any _ _).mono ?_; rintro e w3 ⟨rfl, rfl⟩)
  rw [rounds_succ]
  go_wp2_with (go_at_call 97; refine (half_any _ _).mono ?_; rintro e w3 ⟨rfl, rfl⟩)
  rw [rounds_succ]
  go_wp2_with (go_at_call 97; refine (half_any _ _).mono ?_; rintro e w3 ⟨rfl, rfl⟩)
  rw [rounds_succ]
  go_wp2_with (go_at_call 97; refine (half_any _ _).mono ?_; rintro e w3 ⟨rfl, rfl⟩)
  rw [rounds_succ]
  go_wp2_with (go_at_call 97; refine (half_any _ _).mono ?_; rintro e w3 ⟨rfl, rfl⟩)
  refine wp_loop_rounds 1 ?_
  rw [rounds_succ]
  go_wp2_with (go_at_call 97; refine (half_any _ _).mono ?_; rintro e w3 ⟨rfl, rfl⟩)
  go_ret
  exact ⟨((Below.refl _ w).alloc (Nat.le_refl _) _).alloc (by simp) _, w.heap.size + 1, rfl, (cell_of_row _ (w.heap.size + 1) 1 _ _ _ (heap_alloc2_new w _ _)).trans rfl⟩
set_option maxRecDepth 20000 in
set_option maxHeartbeats 1000000 in
theorem check_5 (f s u g q0 q1 q2 q3 x0 x1 x2 : Int) (a0 : Addr) (w : World) (hg : w.cell? ⟨1, 0, none⟩ = some (.iface 174 (.pointer (some a0)))) (n0 : bits .andNot .i64 f 15 = 0) (n1 : bits .andNot .i64 s 65535 = 0) (n2 : bits .andNot .i64 u 65535 = 0) (n3 : bits .andNot .i64 g 65535 = 0) (k0 : halfI x0 = x0) (k1 : ¬ halfI x1 = x1) :
    Calls Tryd.prog 72 #[.agg #[.int .i64 f, .int .i64 s, .int .i64 u, .int .i64 g, .int .i32 q0, .int .i32 q1, .int .i32 q2, .int .i32 q3, .int .i32 x0, .int .i32 x1, .int .i32 x2]] w fun e w' => Below w.heap.size w w' ∧ ∃ p, e = .returned (.iface 144 (.pointer (some ⟨p, 0, none⟩))) ∧ w'.cell? ⟨p, 1, none⟩ = some (.iface 174 (.pointer (some a0))) := by
  have hg2 := (((Below.refl _ w).alloc (Nat.le_refl _) (.cells #[.int .i64 f, .int .i64 s, .int .i64 u, .int .i64 g, .int .i32 q0, .int .i32 q1, .int .i32 q2, .int .i32 q3, .int .i32 x0, .int .i32 x1, .int .i32 x2] 50)).cell (p := ⟨1, 0, none⟩) (lt_of_cell hg)).trans hg
  go_enter Tryd.func72, Tryd.ntmps72
  go_wp2_with fail
  refine wp_loop_rounds 5 ?_
  rw [rounds_succ]
  go_wp2_with (go_at_call 97; refine (half_any _ _).mono ?_; rintro e w3 ⟨rfl, rfl⟩)
  rw [rounds_succ]
  go_wp2_with (go_at_call 97; refine (half_any _ _).mono ?_; rintro e w3 ⟨rfl, rfl⟩)
  rw [rounds_succ]
  go_wp2_with (go_at_call 97; refine (half_any _ _).mono ?_; rintro e w3 ⟨rfl, rfl⟩)
  rw [rounds_succ]
  go_wp2_with (go_at_call 97; refine (half_any _ _).mono ?_; rintro e w3 ⟨rfl, rfl⟩)
  rw [rounds_succ]
  go_wp2_with (go_at_call 97; refine (half_any _ _).mono ?_; rintro e w3 ⟨rfl, rfl⟩)
  refine wp_loop_rounds 2 ?_
  rw [rounds_succ]
  go_wp2_with (go_at_call 97; refine (half_any _ _).mono ?_; rintro e w3 ⟨rfl, rfl⟩)
  rw [rounds_succ]
  go_wp2_with (go_at_call 97; refine (half_any _ _).mono ?_; rintro e w3 ⟨rfl, rfl⟩)
  go_ret
  exact ⟨((Below.refl _ w).alloc (Nat.le_refl _) _).alloc (by simp) _, w.heap.size + 1, rfl, (cell_of_row _ (w.heap.size + 1) 1 _ _ _ (heap_alloc2_new w _ _)).trans rfl⟩
set_option maxRecDepth 20000 in
set_option maxHeartbeats 1000000 in
theorem check_6 (f s u g q0 q1 q2 q3 x0 x1 x2 : Int) (a0 : Addr) (w : World) (hg : w.cell? ⟨1, 0, none⟩ = some (.iface 174 (.pointer (some a0)))) (n0 : bits .andNot .i64 f 15 = 0) (n1 : bits .andNot .i64 s 65535 = 0) (n2 : bits .andNot .i64 u 65535 = 0) (n3 : bits .andNot .i64 g 65535 = 0) (k0 : halfI x0 = x0) (k1 : halfI x1 = x1) (k2 : ¬ halfI x2 = x2) :
    Calls Tryd.prog 72 #[.agg #[.int .i64 f, .int .i64 s, .int .i64 u, .int .i64 g, .int .i32 q0, .int .i32 q1, .int .i32 q2, .int .i32 q3, .int .i32 x0, .int .i32 x1, .int .i32 x2]] w fun e w' => Below w.heap.size w w' ∧ ∃ p, e = .returned (.iface 144 (.pointer (some ⟨p, 0, none⟩))) ∧ w'.cell? ⟨p, 1, none⟩ = some (.iface 174 (.pointer (some a0))) := by
  have hg2 := (((Below.refl _ w).alloc (Nat.le_refl _) (.cells #[.int .i64 f, .int .i64 s, .int .i64 u, .int .i64 g, .int .i32 q0, .int .i32 q1, .int .i32 q2, .int .i32 q3, .int .i32 x0, .int .i32 x1, .int .i32 x2] 50)).cell (p := ⟨1, 0, none⟩) (lt_of_cell hg)).trans hg
  go_enter Tryd.func72, Tryd.ntmps72
  go_wp2_with fail
  refine wp_loop_rounds 5 ?_
  rw [rounds_succ]
  go_wp2_with (go_at_call 97; refine (half_any _ _).mono ?_; rintro e w3 ⟨rfl, rfl⟩)
  rw [rounds_succ]
  go_wp2_with (go_at_call 97; refine (half_any _ _).mono ?_; rintro e w3 ⟨rfl, rfl⟩)
  rw [rounds_succ]
  go_wp2_with (go_at_call 97; refine (half_any _ _).mono ?_; rintro e w3 ⟨rfl, rfl⟩)
  rw [rounds_succ]
  go_wp2_with (go_at_call 97; refine (half_any _ _).mono ?_; rintro e w3 ⟨rfl, rfl⟩)
  rw [rounds_succ]
  go_wp2_with (go_at_call 97; refine (half_any _ _).mono ?_; rintro e w3 ⟨rfl, rfl⟩)
  refine wp_loop_rounds 3 ?_
  rw [rounds_succ]
  go_wp2_with (go_at_call 97; refine (half_any _ _).mono ?_; rintro e w3 ⟨rfl, rfl⟩)
  rw [rounds_succ]
  go_wp2_with (go_at_call 97; refine (half_any _ _).mono ?_; rintro e w3 ⟨rfl, rfl⟩)
  rw [rounds_succ]
  go_wp2_with (go_at_call 97; refine (half_any _ _).mono ?_; rintro e w3 ⟨rfl, rfl⟩)
  go_ret
  exact ⟨((Below.refl _ w).alloc (Nat.le_refl _) _).alloc (by simp) _, w.heap.size + 1, rfl, (cell_of_row _ (w.heap.size + 1) 1 _ _ _ (heap_alloc2_new w _ _)).trans rfl⟩
set_option maxRecDepth 20000 in
set_option maxHeartbeats 1000000 in
theorem check_7 (f s u g q0 q1 q2 q3 x0 x1 x2 : Int) (a0 : Addr) (w : World) (hg : w.cell? ⟨1, 0, none⟩ = some (.iface 174 (.pointer (some a0)))) (n0 : bits .andNot .i64 f 15 = 0) (n1 : bits .andNot .i64 s 65535 = 0) (n2 : bits .andNot .i64 u 65535 = 0) (n3 : bits .andNot .i64 g 65535 = 0) (k0 : halfI x0 = x0) (k1 : halfI x1 = x1) (k2 : halfI x2 = x2) :
    Calls Tryd.prog 72 #[.agg #[.int .i64 f, .int .i64 s, .int .i64 u, .int .i64 g, .int .i32 q0, .int .i32 q1, .int .i32 q2, .int .i32 q3, .int .i32 x0, .int .i32 x1, .int .i32 x2]] w fun e w' => Below w.heap.size w w' ∧ e = .returned .nilIface := by
  have hg2 := (((Below.refl _ w).alloc (Nat.le_refl _) (.cells #[.int .i64 f, .int .i64 s, .int .i64 u, .int .i64 g, .int .i32 q0, .int .i32 q1, .int .i32 q2, .int .i32 q3, .int .i32 x0, .int .i32 x1, .int .i32 x2] 50)).cell (p := ⟨1, 0, none⟩) (lt_of_cell hg)).trans hg
  go_enter Tryd.func72, Tryd.ntmps72
  go_wp2_with fail
  refine wp_loop_rounds 5 ?_
  rw [rounds_succ]
  go_wp2_with (go_at_call 97; refine (half_any _ _).mono ?_; rintro e w3 ⟨rfl, rfl⟩)
  rw [rounds_succ]
  go_wp2_with (go_at_call 97; refine (half_any _ _).mono ?_; rintro e w3 ⟨rfl, rfl⟩)
  rw [rounds_succ]
  go_wp2_with (go_at_call 97; refine (half_any _ _).mono ?_; rintro e w3 ⟨rfl, rfl⟩)
  rw [rounds_succ]
  go_wp2_with (go_at_call 97; refine (half_any _ _).mono ?_; rintro e w3 ⟨rfl, rfl⟩)
  rw [rounds_succ]
  go_wp2_with (go_at_call 97; refine (half_any _ _).mono ?_; rintro e w3 ⟨rfl, rfl⟩)
  refine wp_loop_rounds 4 ?_
  rw [rounds_succ]
  go_wp2_with (go_at_call 97; refine (half_any _ _).mono ?_; rintro e w3 ⟨rfl, rfl⟩)
  rw [rounds_succ]
  go_wp2_with (go_at_call 97; refine (half_any _ _).mono ?_; rintro e w3 ⟨rfl, rfl⟩)
  rw [rounds_succ]
  go_wp2_with (go_at_call 97; refine (half_any _ _).mono ?_; rintro e w3 ⟨rfl, rfl⟩)
  rw [rounds_succ]
  go_wp2_with (go_at_call 97; refine (half_any _ _).mono ?_; rintro e w3 ⟨rfl, rfl⟩)
  go_ret
  exact ⟨(Below.refl _ w).alloc (Nat.le_refl _) _, rfl⟩
theorem check_any (f s u g q0 q1 q2 q3 x0 x1 x2 : Int) (a0 a1 : Addr) (w : World) (E : ErrsAt w a0 a1) (bf : -9223372036854775808 ≤ f ∧ f ≤ 9223372036854775807) (bs : -9223372036854775808 ≤ s ∧ s ≤ 9223372036854775807) (bu : -9223372036854775808 ≤ u ∧ u ≤ 9223372036854775807) (bg : -9223372036854775808 ≤ g ∧ g ≤ 9223372036854775807)
    (b0 : -2147483648 ≤ x0 ∧ x0 ≤ 2147483647) (b1 : -2147483648 ≤ x1 ∧ x1 ≤ 2147483647) (b2 : -2147483648 ≤ x2 ∧ x2 ≤ 2147483647) :
    Calls Tryd.prog 72 #[.agg #[.int .i64 f, .int .i64 s, .int .i64 u, .int .i64 g, .int .i32 q0, .int .i32 q1, .int .i32 q2, .int .i32 q3, .int .i32 x0, .int .i32 x1, .int .i32 x2]] w (CheckPost (Right f s u g x0 x1 x2) a0 w) := by
  have m0 := andnot_zero f bf 4 (by decide) 15 (by decide)
  have m1 := andnot_zero s bs 16 (by decide) 65535 (by decide)
  have m2 := andnot_zero u bu 16 (by decide) 65535 (by decide)
  have m3 := andnot_zero g bg 16 (by decide) 65535 (by decide)
  have m4 := half_same x0 b0
  have m5 := half_same x1 b1
  have m6 := half_same x2 b2
  by_cases n0 : bits .andNot .i64 f 15 = 0
  case neg =>
    exact (check_0 f s u g q0 q1 q2 q3 x0 x1 x2 a0 w E.1 n0).mono (fun e w' h => ⟨h.1, .inr ⟨fun R => n0 (m0.2 R.1), h.2⟩⟩)
  by_cases n1 : bits .andNot .i64 s 65535 = 0
  case neg =>
    exact (check_1 f s u g q0 q1 q2 q3 x0 x1 x2 a0 w E.1 n0 n1).mono (fun e w' h => ⟨h.1, .inr ⟨fun R => n1 (m1.2 R.2.1), h.2⟩⟩)
  by_cases n2 : bits .andNot .i64 u 65535 = 0
  case neg =>
    exact (check_2 f s u g q0 q1 q2 q3 x0 x1 x2 a0 w E.1 n0 n1 n2).mono (fun e w' h => ⟨h.1, .inr ⟨fun R => n2 (m2.2 R.2.2.1), h.2⟩⟩)
  by_cases n3 : bits .andNot .i64 g 65535 = 0
  case neg =>
    exact (check_3 f s u g q0 q1 q2 q3 x0 x1 x2 a0 w E.1 n0 n1 n2 n3).mono (fun e w' h => ⟨h.1, .inr ⟨fun R => n3 (m3.2 R.2.2.2.1), h.2⟩⟩)
  by_cases k0 : halfI x0 = x0
  case neg =>
    exact (check_4 f s u g q0 q1 q2 q3 x0 x1 x2 a0 w E.1 n0 n1 n2 n3 k0).mono (fun e w' h => ⟨h.1, .inr ⟨fun R => k0 (m4.2 R.2.2.2.2.1), h.2⟩⟩)
  by_cases k1 : halfI x1 = x1
  case neg =>
    exact (check_5 f s u g q0 q1 q2 q3 x0 x1 x2 a0 w E.1 n0 n1 n2 n3 k0 k1).mono (fun e w' h => ⟨h.1, .inr ⟨fun R => k1 (m5.2 R.2.2.2.2.2.1), h.2⟩⟩)
  by_cases k2 : halfI x2 = x2
  case neg =>
    exact (check_6 f s u g q0 q1 q2 q3 x0 x1 x2 a0 w E.1 n0 n1 n2 n3 k0 k1 k2).mono (fun e w' h => ⟨h.1, .inr ⟨fun R => k2 (m6.2 R.2.2.2.2.2.2), h.2⟩⟩)
  exact (check_7 f s u g q0 q1 q2 q3 x0 x1 x2 a0 w E.1 n0 n1 n2 n3 k0 k1 k2).mono (fun e w' h => ⟨h.1, .inl ⟨⟨m0.1 n0, m1.1 n1, m2.1 n2, m3.1 n3, m4.1 k0, m5.1 k1, m6.1 k2⟩, h.2⟩⟩)
end Go.Proofs.YtecbfegohdllbaaDoor
