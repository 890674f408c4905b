/- The walk of the statement of layer 1 (word) that speaks of the reference. -/
import Derived.Test.YtkfffpdhnmjjmabRef01
import Derived.Test.YtkfffpdhnmjjmabWordAwake
import Derived.Test.YtkfffpdhnmjjmabEach
import Derived.Laws.BytesArg
namespace Go.Proofs.Ytkfffpdhnmjjmab
open Go.RowKit
set_option linter.unusedVariables false
def four (x : Int) : List Int := [x / 16777216 % 256, x / 65536 % 256, x / 256 % 256, x % 256]
theorem conv4 (x : Int) (s : ByteArray) (hs : strOfNums (four x) = s) (b c : Nat) (w : World) (c0 : w.cell? ⟨b, 0, none⟩ = some (.int .u8 (x / 16777216 % 256))) (c1 : w.cell? ⟨b, 1, none⟩ = some (.int .u8 (x / 65536 % 256))) (c2 : w.cell? ⟨b, 2, none⟩ = some (.int .u8 (x / 256 % 256))) (c3 : w.cell? ⟨b, 3, none⟩ = some (.int .u8 (x % 256))) :
    (convert 27 9 (.slice (some ⟨b, 0, none⟩) 4 c)).run Try.prog w = .ok (.string s) w := by
  subst hs
  refine run_convert_bytes_arg (P := Try.prog) w 27 5 Try.underlying27 Try.underlying5 b 0 4 c (four x) rfl (fun i hi => ?_) 9 Try.underlying9
  rcases i with _ | _ | _ | _ | i
  · simpa [four] using c0
  · simpa [four] using c1
  · simpa [four] using c2
  · simpa [four] using c3
  · omega
theorem conv4l (x : Int) (s : ByteArray) (hs : strOfNums (four x) = s) (b c : Nat) (w : World) (hlt : b < w.heap.size) (c0 : w.cell? ⟨b, 0, none⟩ = some (.int .u8 (x / 16777216 % 256))) (c1 : w.cell? ⟨b, 1, none⟩ = some (.int .u8 (x / 65536 % 256))) (c2 : w.cell? ⟨b, 2, none⟩ = some (.int .u8 (x / 256 % 256))) (c3 : w.cell? ⟨b, 3, none⟩ = some (.int .u8 (x % 256))) :
    ∀ w', Below w.heap.size w w' → (convert 27 9 (.slice (some ⟨b, 0, none⟩) 4 c)).run Try.prog w' = .ok (.string s) w' := fun w' hb =>
  conv4 x s hs b c w' ((hb.cell (p := ⟨b, 0, none⟩) hlt).trans c0) ((hb.cell (p := ⟨b, 1, none⟩) hlt).trans c1) ((hb.cell (p := ⟨b, 2, none⟩) hlt).trans c2) ((hb.cell (p := ⟨b, 3, none⟩) hlt).trans c3)
/-- both readings of bytes are one -/
theorem froms (v : Value) (l : List Int) (w : World) (h : Reads .u8 w v l) : ∃ x e : Int, (∀ w' : World, Below w.heap.size w w' → Calls Try.prog 17 #[v] w' fun r w'' => r = .returned (.tuple #[.int .i32 x, .int .i64 e]) ∧ w' = w'') ∧
    (∀ w' : World, Below w.heap.size w w' → Calls Try.prog 18 #[v] w' fun r w'' => r = .returned (.tuple #[.int .i32 x, .int .i64 e]) ∧ w' = w'') := by
  obtain ⟨a, c, rfl, h1, h2, h3, h4, h5⟩ := id h
  unfold maxLen at h2
  by_cases s1 : l.length < 4
  · exact ⟨0, 4, fun w' _ => from_short a _ c w' s1, fun w' _ => rfrom_short a _ c w' s1⟩
  by_cases s2 : 4 < l.length
  · exact ⟨0, 5, fun w' _ => from_long a _ c w' s2 (by omega), fun w' _ => rfrom_long a _ c w' s2 (by omega)⟩
  have s3 : l.length = 4 := by omega
  obtain ⟨b0, b1, b2, b3, rfl⟩ : ∃ b0 b1 b2 b3, l = [b0, b1, b2, b3] := by
    match l, s3 with
    | [b0, b1, b2, b3], _ => exact ⟨b0, b1, b2, b3, rfl⟩
  have g0 := bd_u8 (h3 b0 (by simp))
  have g1 := bd_u8 (h3 b1 (by simp))
  have g2 := bd_u8 (h3 b2 (by simp))
  have g3 := bd_u8 (h3 b3 (by simp))
  obtain ⟨b, off, c', hv, _, _, _, _⟩ := h.plain (by simp)
  obtain ⟨rfl, _, rfl⟩ := Value.slice.inj hv
  refine ⟨lowI (((b0 * 256 + b1) * 256 + b2) * 256 + b3), 0, fun w' hb => ?_, fun w' hb => ?_⟩
  all_goals
    obtain ⟨b', off', c', hv, _, _, _, hc⟩ := (h.later hb).plain (by simp)
    obtain ⟨ha, _, _⟩ := Value.slice.inj hv
    obtain ⟨rfl, rfl, _⟩ := Addr.mk.inj (Option.some.inj ha)
    have c0 := hc 0 (by simp)
    have c1 := hc 1 (by simp)
    have c2 := hc 2 (by simp)
    have c3 := hc 3 (by simp)
    simp at c0 c1 c2 c3
  · exact from_four b0 b1 b2 b3 b off c w' g0 g1 g2 g3 c0 c1 c2 c3
  · exact rfrom_four b0 b1 b2 b3 b off c w' g0 g1 g2 g3 c0 c1 c2 c3
set_option maxHeartbeats 2000000 in
theorem WordTells_walk (a0 : Int) (a1 : Int) (a2 : Int) (a3 : Option Addr) (len3 cap3 : Nat) (z3 : List Int) (w : World) (w0 : (Lit.int .i64 a0).wf = true) (w1 : (Lit.int .i32 a1).wf = true) (w2 : (Lit.int .i32 a2).wf = true) (w3 : IsRow .u8 w a3 len3 cap3 z3) :
    Calls Try.prog 4 #[.int .i64 a0, .int .i32 a1, .int .i32 a2, .slice a3 len3 cap3] w fun e w' => e = .returned (.bool true) ∧ Below w.heap.size w w' := by
  have b0 := bd_i64 w0
  have b1 := bd_i32 w1
  have b2 := bd_i32 w2
  clear w0 w1 w2
  have hB := Below.refl w.heap.size w
  obtain ⟨x, e, hf, hr⟩ := froms _ _ w w3.reads.2
  obtain ⟨s, hs⟩ : ∃ s, strOfNums (four a1) = s := ⟨_, rfl⟩
  have HS := hid hs
  clear hs
  have HF := hid (hf w hB)
  have HR := hid (hr w hB)
  clear hf hr w3
  go_enter Try.func4, Try.ntmps4
  go_wp2_with fail
  refine (HF.out).mono ?_
  rintro e w2 ⟨rfl, rfl⟩
  go_wp2_with fail
  refine (HR.out).mono ?_
  rintro e w2 ⟨rfl, rfl⟩
  go_wp2_with fail
  refine (low_any _ _).mono ?_
  rintro e w2 ⟨rfl, rfl⟩
  go_wp2_with fail
  refine (rlow_any _ _ b0).mono ?_
  rintro e w2 ⟨rfl, rfl⟩
  go_wp2_with fail
  refine (high_any _ _ b0).mono ?_
  rintro e w2 ⟨rfl, rfl⟩
  go_wp2_with fail
  refine (rhigh_any _ _ b0).mono ?_
  rintro e w2 ⟨rfl, rfl⟩
  go_wp2_with fail
  refine (join_any _ _ _ b1 b2).mono ?_
  rintro e w2 ⟨rfl, rfl⟩
  go_wp2_with fail
  refine (rjoin_any _ _ _ b1 b2).mono ?_
  rintro e w2 ⟨rfl, rfl⟩
  go_wp2_with fail
  refine (half_any _ _).mono ?_
  rintro e w2 ⟨rfl, rfl⟩
  go_wp2_with fail
  refine (rhalf_any _ _ b1).mono ?_
  rintro e w2 ⟨rfl, rfl⟩
  have u1 : 0 ≤ IntKind.u8.wrap a1 ∧ IntKind.u8.wrap a1 ≤ 255 := by rw [IntKind.wrap_u8']; omega
  have u2 : 0 ≤ IntKind.u8.wrap a2 ∧ IntKind.u8.wrap a2 ≤ 255 := by rw [IntKind.wrap_u8']; omega
  go_wp2_with fail
  refine wp_region_B' (n := 24) (l := #[false, false, false, false, false, false, false, false, false, false, false, false, false, false, false, false, false, false, false, false, false, false, false, false]) (by kernel_rfl) (by kernel_rfl) (by kernel_rfl) ?_
  refine wpAnyB_take (i := 0) (v := ?vr0) (some 61) rfl rfl (by kernel_rfl) (by kernel_rfl) (by kernel_rfl) (fun _ _ _ h => h) (by rfl) ?hvr0 ?restr0
  case hvr0 => (intro w' hb; go_simp; try with_reducible rfl)
  simp only [Act.put, List.setIfInBounds_toArray, List.set_cons_zero, List.set_cons_succ]
  refine wpAnyB_take (i := 3) (v := ?vr3) (some 64) rfl rfl (by kernel_rfl) (by kernel_rfl) (by kernel_rfl) (fun _ _ _ h => h) (by rfl) ?hvr3 ?restr3
  case hvr3 => (intro w' hb; go_simp; try with_reducible rfl)
  simp only [Act.put, List.setIfInBounds_toArray, List.set_cons_zero, List.set_cons_succ]
  refine wpAnyB_alone (i := 1) rfl (by kernel_rfl) (by rfl) (fun K hK => ?_)
  go_simp
  refine (bytes4_any _ _).mono ?_
  rintro e w2 ⟨b, c, rfl, hb, _, _, _, hlt, c0, c1, c2, c3⟩
  have k1 := conv4l a1 s HS.out b c w2 hlt c0 c1 c2 c3
  clear c0 c1 c2 c3 hlt
  replace hB := chain hB.drew hb
  refine hK.out _ _ hb ?_
  clear hK K
  simp only [List.setIfInBounds_toArray, List.set_cons_zero, List.set_cons_succ]
  refine wpAnyB_take (i := 2) (v := ?vr2) (some 63) rfl rfl (by kernel_rfl) (by kernel_rfl) (by kernel_rfl) (fun _ _ _ h => h) (by rfl) ?hvr2 ?restr2
  case hvr2 => (intro w' hb; go_simp; try with_reducible rfl)
  simp only [Act.put, List.setIfInBounds_toArray, List.set_cons_zero, List.set_cons_succ]
  refine wpAnyB_alone (i := 4) rfl (by kernel_rfl) (by rfl) (fun K hK => ?_)
  go_simp
  refine (rbytes4_any _ _ b1).mono ?_
  rintro e w3 ⟨b', c', rfl, hb, _, _, _, hlt, c0, c1, c2, c3⟩
  have k2 := conv4l a1 s HS.out b' c' w3 hlt c0 c1 c2 c3
  clear c0 c1 c2 c3 hlt k1
  replace hB := chain hB hb
  refine hK.out _ _ hb ?_
  clear hK K
  simp only [List.setIfInBounds_toArray, List.set_cons_zero, List.set_cons_succ]
  refine wpAnyB_take (i := 5) (v := ?vr5) (some 66) rfl rfl (by kernel_rfl) (by kernel_rfl) (by kernel_rfl) (fun _ _ _ h => h) (by rfl) ?hvr5 ?restr5
  case hvr5 => (intro w' hb; go_simp; try with_reducible rfl)
  simp only [Act.put, List.setIfInBounds_toArray, List.set_cons_zero, List.set_cons_succ]
  refine wpAnyB_take (i := 6) (v := ?vr6) (some 67) rfl rfl (by kernel_rfl) (by kernel_rfl) (by kernel_rfl) (fun _ _ _ h => h) (by rfl) ?hvr6 ?restr6
  case hvr6 => (intro w' hb; go_simp; try with_reducible rfl)
  simp only [Act.put, List.setIfInBounds_toArray, List.set_cons_zero, List.set_cons_succ]
  refine wpAnyB_take (i := 7) (v := ?vr7) (some 68) rfl rfl (by kernel_rfl) (by kernel_rfl) (by kernel_rfl) (fun _ _ _ h => h) (by rfl) ?hvr7 ?restr7
  case hvr7 => (intro w' hb; go_simp; try with_reducible rfl)
  simp only [Act.put, List.setIfInBounds_toArray, List.set_cons_zero, List.set_cons_succ]
  refine wpAnyB_take (i := 8) (v := ?vr8) (some 69) rfl rfl (by kernel_rfl) (by kernel_rfl) (by kernel_rfl) (fun _ _ _ h => h) (by rfl) ?hvr8 ?restr8
  case hvr8 => (intro w' hb; go_simp; try with_reducible rfl)
  simp only [Act.put, List.setIfInBounds_toArray, List.set_cons_zero, List.set_cons_succ]
  refine wpAnyB_take (i := 9) (v := ?vr9) (some 70) rfl rfl (by kernel_rfl) (by kernel_rfl) (by kernel_rfl) (fun _ _ _ h => h) (by rfl) ?hvr9 ?restr9
  case hvr9 => (intro w' hb; go_simp; try with_reducible rfl)
  simp only [Act.put, List.setIfInBounds_toArray, List.set_cons_zero, List.set_cons_succ]
  refine wpAnyB_take (i := 10) (v := ?vr10) (some 71) rfl rfl (by kernel_rfl) (by kernel_rfl) (by kernel_rfl) (fun _ _ _ h => h) (by rfl) ?hvr10 ?restr10
  case hvr10 => (intro w' hb; go_simp; try with_reducible rfl)
  simp only [Act.put, List.setIfInBounds_toArray, List.set_cons_zero, List.set_cons_succ]
  refine wpAnyB_take (i := 11) (v := ?vr11) (some 72) rfl rfl (by kernel_rfl) (by kernel_rfl) (by kernel_rfl) (fun _ _ _ h => h) (by rfl) ?hvr11 ?restr11
  case hvr11 => (intro w' hb; go_simp; try with_reducible rfl)
  simp only [Act.put, List.setIfInBounds_toArray, List.set_cons_zero, List.set_cons_succ]
  refine wpAnyB_take (i := 13) (v := ?vr13) (some 74) rfl rfl (by kernel_rfl) (by kernel_rfl) (by kernel_rfl) (fun _ _ _ h => h) (by rfl) ?hvr13 ?restr13
  case hvr13 => (intro w' hb; go_simp; try with_reducible rfl)
  simp only [Act.put, List.setIfInBounds_toArray, List.set_cons_zero, List.set_cons_succ]
  refine wpAnyB_take (i := 14) (v := ?vr14) (some 75) rfl rfl (by kernel_rfl) (by kernel_rfl) (by kernel_rfl) (fun _ _ _ h => h) (by rfl) ?hvr14 ?restr14
  case hvr14 => (intro w' hb; go_simp; try with_reducible rfl)
  simp only [Act.put, List.setIfInBounds_toArray, List.set_cons_zero, List.set_cons_succ]
  refine wpAnyB_take (i := 15) (v := ?vr15) (some 76) rfl rfl (by kernel_rfl) (by kernel_rfl) (by kernel_rfl) (fun _ _ _ h => h) (by rfl) ?hvr15 ?restr15
  case hvr15 => (intro w' hb; go_simp; try with_reducible rfl)
  simp only [Act.put, List.setIfInBounds_toArray, List.set_cons_zero, List.set_cons_succ]
  refine wpAnyB_take (i := 16) (v := ?vr16) (some 77) rfl rfl (by kernel_rfl) (by kernel_rfl) (by kernel_rfl) (fun _ _ _ h => h) (by rfl) ?hvr16 ?restr16
  case hvr16 => (intro w' hb; go_simp; try with_reducible rfl)
  simp only [Act.put, List.setIfInBounds_toArray, List.set_cons_zero, List.set_cons_succ]
  refine wpAnyB_alone (i := 12) rfl (by kernel_rfl) (by rfl) (fun K hK => ?_)
  go_simp
  refine (pair_any _ _ _ u1 u2).mono ?_
  rintro e w4 ⟨rfl, rfl⟩
  have hb := Below.refl w3.heap.size w3
  refine hK.out _ _ hb ?_
  clear hK K
  simp only [List.setIfInBounds_toArray, List.set_cons_zero, List.set_cons_succ]
  refine wpAnyB_alone (i := 17) rfl (by kernel_rfl) (by rfl) (fun K hK => ?_)
  go_simp
  refine (rpair_any _ _ _ u1 u2).mono ?_
  rintro e w4 ⟨rfl, rfl⟩
  have hb := Below.refl w3.heap.size w3
  refine hK.out _ _ hb ?_
  clear hK K
  simp only [List.setIfInBounds_toArray, List.set_cons_zero, List.set_cons_succ]
  refine wpAnyB_take (i := 18) (v := ?vr18) (some 79) rfl rfl (by kernel_rfl) (by kernel_rfl) (by kernel_rfl) (fun _ _ _ h => h) (by rfl) ?hvr18 ?restr18
  case hvr18 => (intro w' hb; go_simp; try with_reducible rfl)
  simp only [Act.put, List.setIfInBounds_toArray, List.set_cons_zero, List.set_cons_succ]
  refine wpAnyB_take (i := 19) (v := ?vr19) (some 80) rfl rfl (by kernel_rfl) (by kernel_rfl) (by kernel_rfl) (fun _ _ _ h => h) (by rfl) ?hvr19 ?restr19
  case hvr19 => (intro w' hb; go_simp; try with_reducible rfl)
  simp only [Act.put, List.setIfInBounds_toArray, List.set_cons_zero, List.set_cons_succ]
  refine wpAnyB_take (i := 20) (v := ?vr20) (some 81) rfl rfl (by kernel_rfl) (by kernel_rfl) (by kernel_rfl) (fun _ _ _ h => h) (by rfl) ?hvr20 ?restr20
  case hvr20 => (intro w' hb; go_simp; try with_reducible rfl)
  simp only [Act.put, List.setIfInBounds_toArray, List.set_cons_zero, List.set_cons_succ]
  refine wpAnyB_alone (i := 21) rfl (by kernel_rfl) (by rfl) (fun K hK => ?_)
  go_simp
  refine (awake01 _).mono ?_
  rintro e w5 ⟨rfl, hb⟩
  replace hB := chain hB hb
  refine hK.out _ _ hb ?_
  clear hK K
  simp only [List.setIfInBounds_toArray, List.set_cons_zero, List.set_cons_succ]
  refine wpAnyB_take (i := 22) (v := ?vr22) (some 83) rfl rfl (by kernel_rfl) (by kernel_rfl) (by kernel_rfl) (fun _ _ _ h => h) (by rfl) ?hvr22 ?restr22
  case hvr22 => (intro w' hb; go_simp; try with_reducible rfl)
  simp only [Act.put, List.setIfInBounds_toArray, List.set_cons_zero, List.set_cons_succ]
  refine wpAnyB_take (i := 23) (v := ?vr23) (some 8) rfl rfl (by kernel_rfl) (by kernel_rfl) (by kernel_rfl) (fun _ _ _ h => h) (by rfl) ?hvr23 ?restr23
  case hvr23 => (intro w' hb; go_simp; try with_reducible rfl)
  simp only [Act.put, List.setIfInBounds_toArray, List.set_cons_zero, List.set_cons_succ]
  refine wpAnyB_done (by kernel_rfl) ?_ _
  go_wp2
  go_ret
  exact ⟨rfl, hB⟩
end Go.Proofs.Ytkfffpdhnmjjmab
