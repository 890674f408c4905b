/- The page's example of layer 46 (stream). -/
import Derived.Test.YtecbfegohdllbaaDoorStream4
import Derived.Test.YtecbfegohdllbaaDoorFrameAwake
namespace Go.Proofs.YtecbfegohdllbaaDoor
open Go.RowKit
set_option linter.unusedVariables false
set_option linter.unusedSimpArgs false
theorem push_nil (v : Value) (w : World) : Calls Tryd.prog 43 #[.pointer none, v] w fun e w' => e = .returned (.slice none 0 0) ∧ w = w' := by
  go_enter Tryd.func43, Tryd.ntmps43
  go_wp2
  go_ret
  exact ⟨rfl, rfl⟩
theorem push_odd (g : Nat) (v x0 x1 : Value) (w : World) (h : w.heap[g]? = some (.cells #[x0, x1, .bool false] 112 (0, 0))) : Calls Tryd.prog 43 #[.pointer (some ⟨g, 0, none⟩), v] w fun e w' => e = .returned (.slice none 0 0) ∧ w = w' := by
  have c2 := (cell_of_row w g 2 _ _ _ h).trans (rfl : _ = some (Value.bool false))
  clear h
  go_enter Tryd.func43, Tryd.ntmps43
  go_wp2
  go_ret
  exact ⟨rfl, rfl⟩
def ex5 : List Int := [0, 5, 0, 0, 0, 0, 0, 0, 0, 0, 0]
theorem ex5_wf : RepWf ex5 := RepBd.wf ⟨by omega, by omega, by omega, by omega, by omega, by omega, by omega, by omega, by omega, by omega, by omega⟩
theorem ex5_right : RightL ex5 := by refine ⟨?_, ?_, ?_, ?_, ?_, ?_, ?_⟩ <;> first | exact ⟨by decide, by decide⟩ | decide
theorem ex5_look : look (7 :: frameL ex5) = ([ex5], 1, []) := by
  have hl := frameL_len ex5 rfl
  have h1 : ¬ (7 :: frameL ex5).length < 32 := by rw [List.length_cons, hl]; decide
  have h2 : ¬ getE ((7 :: frameL ex5).take 32) = 0 := by
    intro h
    have := (getE_zero h).2.2.1
    simp at this
  rw [look_miss h1 h2]
  have h3 : (7 :: frameL ex5).drop 1 = [ex5].flatMap frameL := by simp
  rw [h3, look_frames [ex5] (by intro Z hZ; simp at hZ; subst hZ; exact ⟨ex5_wf, ex5_right⟩)]
theorem rc_put {Z : List Int} {w : World} (hZ : RepWf Z) (hR : RightL Z) :
    Calls Tryd.prog 38 #[.agg (rcells Z)] w fun e w' => ∃ v, e = .returned (.tuple #[v, .int .i64 0]) ∧ Below w.heap.size w w' ∧ Reads .u8 w' v (frameL Z) := by
  refine (rfput_any Z hZ w).mono ?_
  rintro e w' ⟨v, rfl, hb, hown⟩
  rw [putE_right hR]
  rw [putL_right hR] at hown
  exact ⟨v, rfl, hb, reads_of_owns hown (frameL_wf Z hZ.1)⟩
set_option maxRecDepth 100000 in
set_option maxHeartbeats 2000000 in
theorem awake46 (a0 a1 : Addr) (w : World) (hF : FC a0 a1 w) : Calls Tryd.prog 42 #[] w fun e w' => e = .returned (.bool true) ∧ Below w.heap.size w w' := by
  obtain ⟨i0, hi, hz0, hz1, hz2⟩ := info_parts Tryd.infoU8
  have F0 := hid hF
  clear hF
  go_enter Tryd.func42, Tryd.ntmps42
  go_wp2_with fail
  refine (rc_put ex5_wf ex5_right).mono ?_
  rintro e w1 ⟨v1, rfl, hB1, hr1⟩
  go_wp2_with fail
  refine (new_any (Ok := fun _ => True) w1).mono ?_
  rintro e w2 ⟨rfl, hs2, hb2⟩
  have hB2 := chain hB1 hb2
  have hr2 := hr1.later hb2
  have hge : w.heap.size ≤ w1.heap.size := hB1.size
  have hlt : w1.heap.size < w2.heap.size := by obtain ⟨_, _, h, _⟩ := hs2; exact lt_of_row h
  generalize w1.heap.size = g at *
  clear hr1 hb2
  go_wp2_with fail
  have q0 : (w2.alloc (.cells #[.slice none 0 0, .int .i64 0, .bool false] 112)).heap[w2.heap.size]? = _ := heap_alloc_new w2 _
  have hb3 := (Below.refl _ w2).alloc (Nat.le_refl _) (.cells #[.slice none 0 0, .int .i64 0, .bool false] 112)
  have hs3 := hs2.below hb3
  have hB3 := chain hB2 hb3
  have hr3 := hr2.later hb3
  have hsz3 : w2.heap.size < (w2.alloc (.cells #[.slice none 0 0, .int .i64 0, .bool false] 112)).heap.size := by simp
  generalize w2.alloc (.cells #[.slice none 0 0, .int .i64 0, .bool false] 112) = w3 at *
  refine (push_nil v1 w3).mono ?_
  rintro e w4 ⟨rfl, rfl⟩
  go_wp2_with fail
  refine (push_odd w2.heap.size v1 _ _ w3 q0).mono ?_
  rintro e w4 ⟨rfl, rfl⟩
  go_wp2_with fail
  refine (lost_nil w3).mono ?_
  rintro e w4 ⟨rfl, rfl⟩
  go_wp2_with fail
  refine (waits_row w2.heap.size 0 0 none 0 false w3 q0).mono ?_
  rintro e w4 ⟨rfl, rfl⟩
  go_wp2_with fail
  refine (end_nil w3).mono ?_
  rintro e w4 ⟨rfl, rfl⟩
  go_wp2_with fail
  refine (end_row0 w2.heap.size 0 none 0 false w3 q0).mono ?_
  rintro e w4 ⟨rfl, rfl⟩
  have HOWN : (w3.alloc (.cells #[.int .u8 7] 5)).ownsRow w3.heap.size 5 1 (.slice (some ⟨w3.heap.size, 0, none⟩) 1 1) 1 ([7].map (Value.int .u8)) := ⟨rfl, .inr ⟨w3.heap.size, 1, #[.int .u8 7], rfl, Nat.le_refl _, heap_alloc_new w3 _, by simp, by decide, rfl, rfl⟩⟩
  have hb34 := (Below.refl _ w3).alloc (Nat.le_refl _) (.cells #[.int .u8 7] 5)
  have HR4 := hid (hr3.later hb34)
  have HFL := hid (frameL_len ex5 rfl)
  have HFW := hid (frameL_wf ex5 rfl)
  have HOWN' := hid HOWN
  have HB34 := hid hb34
  clear HOWN hb34 hr2 hr3 hs2 q0 hb3
  go_wp2_with (((with_reducible refine at_op (.call { callee := .builtin .append, args := #[.tmp 42, .tmp 43], argTypes := #[22, 22] }) ?_); refine wpList_append_reads rfl (.tmp 42) (.tmp 43) 22 rfl w3.heap.size 5 i0 (.int .u8 0) .u8 1 Tryd.underlying22 hi hz0 hz1 hz2 rfl _ 1 _ rfl HOWN'.out v1 (frameL ex5) rfl HR4.out ?_ ?_ ?_ ?_; (rw [HFL.out]; decide); (rw [HFL.out]; decide); (simp); intro v5 w5 hown5 hg5))
  have hb45 : Below w3.heap.size (w3.alloc (.cells #[.int .u8 7] 5)) w5 := (Below.refl _ _).grown hg5 (by simp) (fun k e => by cases e; exact Nat.le_refl _)
  have hb35 : Below w3.heap.size w3 w5 := HB34.out.trans hb45
  have hr5 : Reads .u8 w5 v5 (7 :: frameL ex5) := by
    have hown5' : w5.ownsRow w3.heap.size 5 1 v5 (1 + (frameL ex5).length) ((7 :: frameL ex5).map (Value.int .u8)) := hown5
    refine reads_of_owns hown5' ?_
    · intro x hx
      rcases List.mem_cons.1 hx with rfl | hx
      · rfl
      · exact HFW.out x hx
  have hs5 := (hs3.below (hb35.mono (by omega))).mono (show w2.heap.size ≤ w5.heap.size by have := hb35.size; omega)
  have hB5 := chain hB3 hb35
  have PP := hid (push_any g [] (7 :: frameL ex5) 0 v5 a0 a1 w w5 F0.out hB5 hge hs5 (fun _ _ => trivial) hr5 (by decide) (by rw [List.length_cons, HFL.out]; decide))
  rw [List.nil_append, ex5_look] at PP
  refine PP.out.mono ?_
  rintro e w6 ⟨u, rfl, tt, hs6, hrow⟩
  have hB6 : Below w.heap.size w w6 := hB5.trans (tt.below hB5.size hge)
  have HRR := rrow_of_rows hrow (by intro Z hZ; simp at hZ; subst hZ; rfl)
  obtain ⟨au, cu, rfl, hau, -⟩ := rrow_at HRR (by intro Z hZ; simp at hZ; subst hZ; rfl)
  obtain ⟨bu, ou, rfl⟩ := hau (by decide)
  have cc : w6.cell? ⟨bu, ou + 1, none⟩ = some (.int .i64 5) := rrow_cells HRR (i := 0) (Z := ex5) rfl 1 (.int .i64 5) rfl _ (by omega)
  have LO := hid (lost_any hs6)
  have WA := hid (waits_any hs6)
  clear PP hrow HRR hau hs6 tt hs5 hr5 hown5 hg5 hs3
  go_wp2_with fail
  refine LO.out.mono ?_
  rintro e w7 ⟨rfl, rfl⟩
  go_wp2_with fail
  refine WA.out.mono ?_
  rintro e w7 ⟨rfl, rfl⟩
  go_wp2
  go_ret
  exact ⟨rfl, hB6⟩
end Go.Proofs.YtecbfegohdllbaaDoor
