/- Layer 47 (log): take, two: contracts. -/
import Derived.Test.YtecbfegohdllbaaDoorLog22
namespace Go.Proofs.YtecbfegohdllbaaDoor
open Go.RowKit
set_option linter.unusedVariables false
set_option linter.unusedSimpArgs false
/-- bytes that are read: what is left of them; nothing was wrong -/
def RD (h : Nat) (Y : List Int) (W : World) : Prop :=
  ∃ a c, W.heap[h]? = some (.cells #[.slice a Y.length c, .int .i64 0] 131 (0, 0)) ∧ Reads .u8 W (.slice a Y.length c) Y ∧ ∀ b, a = some b → b.block < h
theorem RD.below {h : Nat} {Y : List Int} {A B : World} (hr : RD h Y A) (hb : Below A.heap.size A B) : RD h Y B := by
  obtain ⟨a, c, h1, h2, h3⟩ := hr
  exact ⟨a, c, (hb.block h (lt_of_row h1)).trans h1, h2.later hb, h3⟩
theorem reads_empty {W : World} {a : Addr} : Reads .u8 W (.slice (some a) 0 0) [] := ⟨_, 0, rfl, Nat.le_refl _, Nat.zero_le _, (fun x hx => by cases hx), (fun h => by cases h), fun b _ i hi => absurd hi (by simp)⟩
set_option maxRecDepth 100000 in
set_option maxHeartbeats 1000000 in
theorem take_ok (h n : Nat) (Y : List Int) (w : World) (hr : RD h Y w) (h1 : 1 ≤ n) (hn : n ≤ Y.length) (hm : Y.length ≤ 1000000) :
    Calls Tryd.prog 103 #[.pointer (some ⟨h, 0, none⟩), .int .i64 n] w fun e w' => ∃ a c, e = .returned (.slice a n c) ∧ n ≤ c ∧ Reads .u8 w' (.slice a n c) (Y.take n) ∧ RD h (Y.drop n) w' ∧ Turn h w w' := by
  obtain ⟨a, c, p1, p2, p3⟩ := hr
  obtain ⟨b, off, c', hv, q1, q2, q3, -⟩ := p2.plain (by omega)
  obtain ⟨rfl, -, rfl⟩ := Value.slice.inj hv
  have p3' := p3 _ rfl
  have hbh : b ≠ h := by simp at p3'; omega
  have c0 : w.cell? ⟨h, 0, none⟩ = some (.slice (some ⟨b, off, none⟩) Y.length c) := (cell_of_row w h 0 _ _ _ p1).trans rfl
  have c1 : w.cell? ⟨h, 1, none⟩ = some (.int .i64 0) := (cell_of_row w h 1 _ _ _ p1).trans rfl
  have f0 := frozen_of_row w h 0 _ _ p1
  have HT := hid (fun u => reads_set (j := 0) (u := u) (p2.take n hn) (fun b' e => by simp [Value.ownBlock] at e; omega : ∀ b', (Value.slice (some ⟨b, off, none⟩) n c).ownBlock = some b' → b' ≠ h))
  have HD := hid (fun u => reads_set (j := 0) (u := u) (reads_drop p2 hn) (fun b' e => by simp [Value.ownBlock] at e; omega : ∀ b', (Value.slice (some ⟨b, off + n, none⟩) (Y.length - n) (c - n)).ownBlock = some b' → b' ≠ h))
  have HP := hid p1
  have HP3 := hid p3
  obtain ⟨m, hmY⟩ : ∃ m, m = Y.length := ⟨_, rfl⟩
  have HM := hid hmY
  have HLD := hid (show (Y.drop n).length = m - n by rw [List.length_drop, hmY])
  rw [← hmY] at hn hm q1 c0 HD HP
  have hnm : (n : Int) ≤ m := by omega
  have hnc : (n : Int) ≤ c := by omega
  have hnc' : n ≤ c := by omega
  have hmc : (m : Int) ≤ c := by omega
  have hlt : ¬ (m : Int) < n := by omega
  have hn0 : (0 : Int) ≤ n := by omega
  have hcm : (c : Int) ≤ 9223372036854775807 := by simp [maxLen] at q2; omega
  clear p1 p2 p3 p3' hv q2 q3 hmY h1 hm hn q1
  go_enter Tryd.func103, Tryd.ntmps103
  by_cases hcn : c = n
  · have hmn : m = n := by omega
    have HCN := hid hcn
    have HMN := hid hmn
    subst hcn
    clear hmn
    go_wp2
    go_ret
    refine ⟨_, _, rfl, Nat.le_refl _, HT.out _, ⟨some ⟨b, off, none⟩, 0, ?_, ?_, fun b' e => HP3.out b' e⟩, (Turn.refl h w).set 0 _⟩
    · rw [HLD.out]; have := HP.out; have h5 := HMN.out; simp [World.setCell, Array.getElem?_modify, this]
    · rw [HLD.out, HMN.out, Nat.sub_self, List.drop_of_length_le (by have := HM.out; have := HMN.out; omega)]
      exact reads_empty
  · have hcn' : ¬ (c : Int) = n := by omega
    go_wp2
    go_ret
    refine ⟨_, _, rfl, hnc', HT.out _, ⟨some ⟨b, off + n, none⟩, c - n, ?_, ?_, fun b' e => ?_⟩, (Turn.refl h w).set 0 _⟩
    · rw [HLD.out]; have := HP.out; simp [World.setCell, Array.getElem?_modify, this]
    · rw [HLD.out]; exact HD.out _
    · obtain rfl := Option.some.inj e; exact HP3.out ⟨b, off, none⟩ rfl
set_option maxRecDepth 100000 in
set_option maxHeartbeats 1000000 in
theorem take_bad (h : Nat) (v : Value) (er : Int) (w : World) (he : er ≠ 0) (p1 : w.heap[h]? = some (.cells #[v, .int .i64 er] 131 (0, 0))) :
    Calls Tryd.prog 103 #[.pointer (some ⟨h, 0, none⟩), .int .i64 2] w fun e w' => e = .returned (.slice (some ⟨w.heap.size, 0, none⟩) 2 2) ∧ w' = w.alloc (.cells #[.int .u8 0, .int .u8 0] 5) := by
  obtain ⟨i0, hi, hz0, hz1, hz2⟩ := info_parts Tryd.infoU8
  have RM := run_makeSlice (P := Tryd.prog) (w := w) 22 5 i0 (.int .u8 0) Tryd.underlying22 hi hz0
  have c1 : w.cell? ⟨h, 1, none⟩ = some (.int .i64 er) := (cell_of_row w h 1 _ _ _ p1).trans rfl
  clear p1
  go_enter Tryd.func103, Tryd.ntmps103
  go_wp2
  go_ret
  exact ⟨rfl, by kernel_rfl⟩
set_option maxRecDepth 100000 in
set_option maxHeartbeats 1000000 in
theorem two_ok (h : Nat) (x y : Int) (Y : List Int) (w : World) (hr : RD h (x :: y :: Y) w) (hm : Y.length ≤ 900000) :
    Calls Tryd.prog 90 #[.pointer (some ⟨h, 0, none⟩)] w fun e w' => e = .returned (.int .i64 (256 * x + y)) ∧ RD h Y w' ∧ Turn h w w' := by
  have HT := hid (take_ok h 2 (x :: y :: Y) w hr (by decide) (by simp) (by simp; omega))
  clear hr
  go_enter Tryd.func90, Tryd.ntmps90
  go_wp2_with fail
  refine HT.out.mono ?_
  rintro e w1 ⟨a, c, rfl, hc, hrd, hr1, ht⟩
  obtain ⟨b, off, c', hv, -, -, hlt, hcell⟩ := hrd.plain (by simp)
  obtain ⟨rfl, -, rfl⟩ := Value.slice.inj hv
  have k0 : w1.cell? ⟨b, off, none⟩ = some (.int .u8 x) := hcell 0 (by simp)
  have k1 : w1.cell? ⟨b, off + 1, none⟩ = some (.int .u8 y) := hcell 1 (by simp)
  obtain ⟨x0, x1⟩ := bd_u8 (Reads.wf hrd x (by simp))
  obtain ⟨y0, y1⟩ := bd_u8 (Reads.wf hrd y (by simp))
  have OR := hid (or_two' (x := x) (y := y) ⟨x0, x1⟩ ⟨y0, y1⟩)
  have HR1 := hid hr1
  have HTN := hid ht
  clear hrd hr1 ht hv hcell hc
  go_wp2_with fail
  refine wp_region_F' (B := w1.heap.size) (n := 11) (l := #[false, false, false, false, false, false, false, false, false, false, false]) (by kernel_rfl) (by kernel_rfl) (by kernel_rfl) ?_
  refine wpAnyF_take (i := 0) (v := ?vp_0_1) (some 6) rfl rfl (by kernel_rfl) (by kernel_rfl) (by kernel_rfl) (fun _ _ _ h => h) (by rfl) ?hvp_0_1 ?restp_0_1
  case hvp_0_1 => (intro w' hb; go_simp; try with_reducible rfl)
  simp only [Act.put, List.setIfInBounds_toArray, List.set_cons_zero, List.set_cons_succ]
  refine wpAnyF_take (i := 1) (v := ?vp_1_2) (some 7) rfl rfl (by kernel_rfl) (by kernel_rfl) (by kernel_rfl) (fun _ _ _ h => h) (by rfl) ?hvp_1_2 ?restp_1_2
  case hvp_1_2 => (intro w' hb; go_simp; try with_reducible rfl)
  simp only [Act.put, List.setIfInBounds_toArray, List.set_cons_zero, List.set_cons_succ]
  refine wpAnyF_take (i := 2) (v := ?vp_2_3) (some 8) rfl rfl (by kernel_rfl) (by kernel_rfl) (by kernel_rfl) (fun _ _ _ h => h) (by rfl) ?hvp_2_3 ?restp_2_3
  case hvp_2_3 => (intro w' hb; (have hcw := (hb.cell (p := ⟨b, off, none⟩) hlt).trans k0; go_simp; try with_reducible rfl))
  simp only [Act.put, List.setIfInBounds_toArray, List.set_cons_zero, List.set_cons_succ]
  refine wpAnyF_take (i := 3) (v := ?vp_3_4) (some 9) rfl rfl (by kernel_rfl) (by kernel_rfl) (by kernel_rfl) (fun _ _ _ h => h) (by rfl) ?hvp_3_4 ?restp_3_4
  case hvp_3_4 => (intro w' hb; go_simp; try with_reducible rfl)
  simp only [Act.put, List.setIfInBounds_toArray, List.set_cons_zero, List.set_cons_succ]
  refine wpAnyF_take (i := 4) (v := ?vp_4_5) (some 10) rfl rfl (by kernel_rfl) (by kernel_rfl) (by kernel_rfl) (fun _ _ _ h => h) (by rfl) ?hvp_4_5 ?restp_4_5
  case hvp_4_5 => (intro w' hb; go_simp; try with_reducible rfl)
  simp only [Act.put, List.setIfInBounds_toArray, List.set_cons_zero, List.set_cons_succ]
  refine wpAnyF_take (i := 5) (v := ?vp_5_6) (some 11) rfl rfl (by kernel_rfl) (by kernel_rfl) (by kernel_rfl) (fun _ _ _ h => h) (by rfl) ?hvp_5_6 ?restp_5_6
  case hvp_5_6 => (intro w' hb; go_simp; try with_reducible rfl)
  simp only [Act.put, List.setIfInBounds_toArray, List.set_cons_zero, List.set_cons_succ]
  refine wpAnyF_take (i := 6) (v := ?vp_6_7) (some 12) rfl rfl (by kernel_rfl) (by kernel_rfl) (by kernel_rfl) (fun _ _ _ h => h) (by rfl) ?hvp_6_7 ?restp_6_7
  case hvp_6_7 => (intro w' hb; go_simp; try with_reducible rfl)
  simp only [Act.put, List.setIfInBounds_toArray, List.set_cons_zero, List.set_cons_succ]
  refine wpAnyF_take (i := 7) (v := ?vp_7_8) (some 13) rfl rfl (by kernel_rfl) (by kernel_rfl) (by kernel_rfl) (fun _ _ _ h => h) (by rfl) ?hvp_7_8 ?restp_7_8
  case hvp_7_8 => (intro w' hb; (have hcw := (hb.cell (p := ⟨b, off + 1, none⟩) hlt).trans k1; go_simp; try with_reducible rfl))
  simp only [Act.put, List.setIfInBounds_toArray, List.set_cons_zero, List.set_cons_succ]
  refine wpAnyF_take (i := 8) (v := ?vp_8_9) (some 14) rfl rfl (by kernel_rfl) (by kernel_rfl) (by kernel_rfl) (fun _ _ _ h => h) (by rfl) ?hvp_8_9 ?restp_8_9
  case hvp_8_9 => (intro w' hb; go_simp; try with_reducible rfl)
  simp only [Act.put, List.setIfInBounds_toArray, List.set_cons_zero, List.set_cons_succ]
  refine wpAnyF_take (i := 9) (v := ?vp_9_10) (some 15) rfl rfl (by kernel_rfl) (by kernel_rfl) (by kernel_rfl) (fun _ _ _ h => h) (by rfl) ?hvp_9_10 ?restp_9_10
  case hvp_9_10 => (intro w' hb; (go_simp; try rw [OR.out]))
  simp only [Act.put, List.setIfInBounds_toArray, List.set_cons_zero, List.set_cons_succ]
  refine wpAnyF_take (i := 10) (v := ?vp_10_11) (some 2) rfl rfl (by kernel_rfl) (by kernel_rfl) (by kernel_rfl) (fun _ _ _ h => h) (by rfl) ?hvp_10_11 ?restp_10_11
  case hvp_10_11 => (intro w' hb; go_simp; try with_reducible rfl)
  simp only [Act.put, List.setIfInBounds_toArray, List.set_cons_zero, List.set_cons_succ]
  refine wpAnyF_done (by kernel_rfl) ?_ _
  go_wp2
  go_ret
  exact ⟨rfl, HR1.out, HTN.out.drew⟩
set_option maxRecDepth 100000 in
set_option maxHeartbeats 1000000 in
theorem two_bad (h : Nat) (v : Value) (er : Int) (w : World) (he : er ≠ 0) (p1 : w.heap[h]? = some (.cells #[v, .int .i64 er] 131 (0, 0))) :
    Calls Tryd.prog 90 #[.pointer (some ⟨h, 0, none⟩)] w fun e w' => e = .returned (.int .i64 0) ∧ Below w.heap.size w w' := by
  have HT := hid (take_bad h v er w he p1)
  clear p1
  go_enter Tryd.func90, Tryd.ntmps90
  go_wp2_with fail
  refine HT.out.mono ?_
  rintro e w1 ⟨rfl, rfl⟩
  have hb := (Below.refl _ w).alloc (Nat.le_refl _) (.cells #[.int .u8 0, .int .u8 0] 5)
  have hn := heap_alloc_new w (.cells #[.int .u8 0, .int .u8 0] 5)
  have hlt := lt_of_row hn
  obtain ⟨b, hbb⟩ : ∃ b, b = w.heap.size := ⟨_, rfl⟩
  have HBL := hid hb
  rw [← hbb] at hn hlt
  rw [← hbb]
  clear hbb hb
  generalize w.alloc (.cells #[.int .u8 0, .int .u8 0] 5) = w1 at *
  have k0 := (cell_of_row w1 b 0 _ _ _ hn).trans (rfl : _ = some (Value.int .u8 0))
  have k1 := (cell_of_row w1 b 1 _ _ _ hn).trans (rfl : _ = some (Value.int .u8 0))
  go_wp2_with fail
  refine wp_region_F' (B := w1.heap.size) (n := 11) (l := #[false, false, false, false, false, false, false, false, false, false, false]) (by kernel_rfl) (by kernel_rfl) (by kernel_rfl) ?_
  refine wpAnyF_take (i := 0) (v := ?vq_c_0_1) (some 6) rfl rfl (by kernel_rfl) (by kernel_rfl) (by kernel_rfl) (fun _ _ _ h => h) (by rfl) ?hvq_c_0_1 ?restq_c_0_1
  case hvq_c_0_1 => (intro w' hb; go_simp; try with_reducible rfl)
  simp only [Act.put, List.setIfInBounds_toArray, List.set_cons_zero, List.set_cons_succ]
  refine wpAnyF_take (i := 1) (v := ?vq_c_1_2) (some 7) rfl rfl (by kernel_rfl) (by kernel_rfl) (by kernel_rfl) (fun _ _ _ h => h) (by rfl) ?hvq_c_1_2 ?restq_c_1_2
  case hvq_c_1_2 => (intro w' hb; go_simp; try with_reducible rfl)
  simp only [Act.put, List.setIfInBounds_toArray, List.set_cons_zero, List.set_cons_succ]
  refine wpAnyF_take (i := 2) (v := ?vq_c_2_3) (some 8) rfl rfl (by kernel_rfl) (by kernel_rfl) (by kernel_rfl) (fun _ _ _ h => h) (by rfl) ?hvq_c_2_3 ?restq_c_2_3
  case hvq_c_2_3 => (intro w' hb; (have hcw := (hb.cell (p := ⟨b, 0, none⟩) hlt).trans k0; go_simp; try with_reducible rfl))
  simp only [Act.put, List.setIfInBounds_toArray, List.set_cons_zero, List.set_cons_succ]
  refine wpAnyF_take (i := 3) (v := ?vq_c_3_4) (some 9) rfl rfl (by kernel_rfl) (by kernel_rfl) (by kernel_rfl) (fun _ _ _ h => h) (by rfl) ?hvq_c_3_4 ?restq_c_3_4
  case hvq_c_3_4 => (intro w' hb; go_simp; try with_reducible rfl)
  simp only [Act.put, List.setIfInBounds_toArray, List.set_cons_zero, List.set_cons_succ]
  refine wpAnyF_take (i := 4) (v := ?vq_c_4_5) (some 10) rfl rfl (by kernel_rfl) (by kernel_rfl) (by kernel_rfl) (fun _ _ _ h => h) (by rfl) ?hvq_c_4_5 ?restq_c_4_5
  case hvq_c_4_5 => (intro w' hb; go_simp; try with_reducible rfl)
  simp only [Act.put, List.setIfInBounds_toArray, List.set_cons_zero, List.set_cons_succ]
  refine wpAnyF_take (i := 5) (v := ?vq_c_5_6) (some 11) rfl rfl (by kernel_rfl) (by kernel_rfl) (by kernel_rfl) (fun _ _ _ h => h) (by rfl) ?hvq_c_5_6 ?restq_c_5_6
  case hvq_c_5_6 => (intro w' hb; go_simp; try with_reducible rfl)
  simp only [Act.put, List.setIfInBounds_toArray, List.set_cons_zero, List.set_cons_succ]
  refine wpAnyF_take (i := 6) (v := ?vq_c_6_7) (some 12) rfl rfl (by kernel_rfl) (by kernel_rfl) (by kernel_rfl) (fun _ _ _ h => h) (by rfl) ?hvq_c_6_7 ?restq_c_6_7
  case hvq_c_6_7 => (intro w' hb; go_simp; try with_reducible rfl)
  simp only [Act.put, List.setIfInBounds_toArray, List.set_cons_zero, List.set_cons_succ]
  refine wpAnyF_take (i := 7) (v := ?vq_c_7_8) (some 13) rfl rfl (by kernel_rfl) (by kernel_rfl) (by kernel_rfl) (fun _ _ _ h => h) (by rfl) ?hvq_c_7_8 ?restq_c_7_8
  case hvq_c_7_8 => (intro w' hb; (have hcw := (hb.cell (p := ⟨b, 1, none⟩) hlt).trans k1; go_simp; try with_reducible rfl))
  simp only [Act.put, List.setIfInBounds_toArray, List.set_cons_zero, List.set_cons_succ]
  refine wpAnyF_take (i := 8) (v := ?vq_c_8_9) (some 14) rfl rfl (by kernel_rfl) (by kernel_rfl) (by kernel_rfl) (fun _ _ _ h => h) (by rfl) ?hvq_c_8_9 ?restq_c_8_9
  case hvq_c_8_9 => (intro w' hb; go_simp; try with_reducible rfl)
  simp only [Act.put, List.setIfInBounds_toArray, List.set_cons_zero, List.set_cons_succ]
  refine wpAnyF_take (i := 9) (v := ?vq_c_9_10) (some 15) rfl rfl (by kernel_rfl) (by kernel_rfl) (by kernel_rfl) (fun _ _ _ h => h) (by rfl) ?hvq_c_9_10 ?restq_c_9_10
  case hvq_c_9_10 => (intro w' hb; go_simp; try with_reducible rfl)
  simp only [Act.put, List.setIfInBounds_toArray, List.set_cons_zero, List.set_cons_succ]
  refine wpAnyF_take (i := 10) (v := ?vq_c_10_11) (some 2) rfl rfl (by kernel_rfl) (by kernel_rfl) (by kernel_rfl) (fun _ _ _ h => h) (by rfl) ?hvq_c_10_11 ?restq_c_10_11
  case hvq_c_10_11 => (intro w' hb; go_simp; try with_reducible rfl)
  simp only [Act.put, List.setIfInBounds_toArray, List.set_cons_zero, List.set_cons_succ]
  refine wpAnyF_done (by kernel_rfl) ?_ _
  go_wp2
  go_ret
  exact ⟨rfl, HBL.out.drew⟩
end Go.Proofs.YtecbfegohdllbaaDoor
