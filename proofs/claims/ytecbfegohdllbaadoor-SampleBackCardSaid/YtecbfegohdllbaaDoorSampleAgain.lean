/- The law SampleAgain of layer 31 (sample). -/
import Derived.Test.YtecbfegohdllbaaDoorSampleAwake
namespace Go.Proofs.YtecbfegohdllbaaDoor
open Go.RowKit
set_option linter.unusedVariables false
set_option linter.unusedSimpArgs false
theorem str_eq (a : ByteArray) : (a.toList == a.toList) = true := by simp
theorem str_neq {a b : ByteArray} (h : a ≠ b) : (a.toList == b.toList) = false := by have := str_ne h; simpa using this
set_option maxRecDepth 100000 in
set_option maxHeartbeats 2000000 in
theorem again_short (a0 : Option Addr) (n c : Nat) (w : World) (h4 : Four w) (hn : n < 20) (hm : n ≤ 9223372036854775807) :
    Calls Tryd.prog 9 #[.slice a0 n c] w fun e w' => e = .returned (.bool true) ∧ Below w.heap.size w w' := by
  have F0 := hid h4
  clear h4
  have hne : (n : Int) ≠ 20 := by omega
  have hs := hid (sread_short a0 n c w (by omega))
  clear hn
  go_enter Tryd.func9, Tryd.ntmps9
  go_wp2_with fail
  refine hs.out.mono ?_
  rintro e w2 ⟨rfl, hb2⟩
  clear hs
  go_wp2_with (first | ((with_reducible refine at_op (.store 38 (.tmp 3) (.tmp 11)) ?_); refine wpG_store rfl (.tmp 3) (.tmp 11) rfl w2.heap.size zeroZ zeroZ rfl rfl rfl rfl _ (heap_alloc_new w2 _) ?_; rw [show (#[Value.int .i32 0, Value.int .i32 0, Value.int .i32 0, Value.int .i32 0, Value.int .i32 0, Value.int .i32 0, Value.int .i32 0, Value.int .i32 0, Value.int .i32 0] : Array Value) = zcells zeroZ from rfl]; have hBW := below_setRow (hb2.alloc hb2.size (.cells (zcells zeroZ) 38)) hb2.size (zcells zeroZ); have hrowW := setRow_heap _ w2.heap.size _ (zcells zeroZ) _ _ (heap_alloc_new w2 (.cells (zcells zeroZ) 38)); generalize (w2.alloc (.cells (zcells zeroZ) 38)).setRow w2.heap.size (zcells zeroZ) = W at *) | ((with_reducible refine at_op (.load 38 (.tmp 3)) ?_); refine wpG_load rfl (.tmp 3) rfl w2.heap.size rfl zeroZ rfl _ _ hrowW ?_) | ((with_reducible refine at_op (.binOp .eql 38 (.tmp 16) (.tmp 17) 38) ?_); refine wpG_eql rfl (.tmp 16) (.tmp 17) _ rfl zeroZ zeroZ rfl rfl rfl rfl ?_))
  have FW := four_later F0.out hBW
  refine (awake31 W FW).mono ?_
  rintro e w5 ⟨rfl, hb5⟩
  go_wp2
  go_ret
  exact ⟨ret_bool (show ((n : Int) != 20) = true by simpa using hne), chain hBW hb5⟩
set_option maxRecDepth 100000 in
set_option maxHeartbeats 2000000 in
theorem again_long (a0 : Option Addr) (n c : Nat) (w : World) (h4 : Four w) (hn : 20 < n) (hm : n ≤ 9223372036854775807) :
    Calls Tryd.prog 9 #[.slice a0 n c] w fun e w' => e = .returned (.bool true) ∧ Below w.heap.size w w' := by
  have F0 := hid h4
  clear h4
  have hne : (n : Int) ≠ 20 := by omega
  have hs := hid (sread_long a0 n c w (by omega) hm)
  clear hn
  go_enter Tryd.func9, Tryd.ntmps9
  go_wp2_with fail
  refine hs.out.mono ?_
  rintro e w2 ⟨rfl, hb2⟩
  clear hs
  go_wp2_with (first | ((with_reducible refine at_op (.store 38 (.tmp 3) (.tmp 11)) ?_); refine wpG_store rfl (.tmp 3) (.tmp 11) rfl w2.heap.size zeroZ zeroZ rfl rfl rfl rfl _ (heap_alloc_new w2 _) ?_; rw [show (#[Value.int .i32 0, Value.int .i32 0, Value.int .i32 0, Value.int .i32 0, Value.int .i32 0, Value.int .i32 0, Value.int .i32 0, Value.int .i32 0, Value.int .i32 0] : Array Value) = zcells zeroZ from rfl]; have hBW := below_setRow (hb2.alloc hb2.size (.cells (zcells zeroZ) 38)) hb2.size (zcells zeroZ); have hrowW := setRow_heap _ w2.heap.size _ (zcells zeroZ) _ _ (heap_alloc_new w2 (.cells (zcells zeroZ) 38)); generalize (w2.alloc (.cells (zcells zeroZ) 38)).setRow w2.heap.size (zcells zeroZ) = W at *) | ((with_reducible refine at_op (.load 38 (.tmp 3)) ?_); refine wpG_load rfl (.tmp 3) rfl w2.heap.size rfl zeroZ rfl _ _ hrowW ?_) | ((with_reducible refine at_op (.binOp .eql 38 (.tmp 16) (.tmp 17) 38) ?_); refine wpG_eql rfl (.tmp 16) (.tmp 17) _ rfl zeroZ zeroZ rfl rfl rfl rfl ?_))
  have FW := four_later F0.out hBW
  refine (awake31 W FW).mono ?_
  rintro e w5 ⟨rfl, hb5⟩
  go_wp2
  go_ret
  exact ⟨ret_bool (show ((n : Int) != 20) = true by simpa using hne), chain hBW hb5⟩
theorem inR_bytes (L : List Int) (h : ∀ x ∈ L, (Lit.int .u8 x).wf = true) : ∀ x ∈ L, 0 ≤ x ∧ x ≤ 255 := fun x hx => bd_u8 (h x hx)
theorem nineR_wf (L : List Int) : ∀ x ∈ nineR L, (Lit.int .i32 x).wf = true := by
  intro x hx
  have := nineR_in L x hx
  simp only [inR] at this
  simp [Lit.wf, IntKind.min, IntKind.max, IntKind.signed, IntKind.bits]; omega
set_option maxRecDepth 100000 in
set_option maxHeartbeats 4000000 in
theorem again_all (v : Value) (L : List Int) (w : World) (hr : Reads .u8 w v L) (h4 : Four w) (hL : L.length = 20) :
    Calls Tryd.prog 9 #[v] w fun e w' => e = .returned (.bool true) ∧ Below w.heap.size w w' := by
  have F0 := hid h4
  have hwf := Reads.wf hr
  have HK := hid (fun w1 (hb : Below w.heap.size w w1) => hr.later hb)
  have RD := hid (sread_all v L w hr h4 hL)
  have NI := hid (nineR_in L)
  have TB := hid (twoB_nine L hL (inR_bytes L hwf))
  have SL := hid (strOfNums_inj (l := sealL (L.take 18)) (m := L) (sealL_wf (fun x hx => hwf x (List.mem_of_mem_take hx))) hwf)
  have HL := hid hL
  obtain ⟨b, off, c, rfl, hlc, hm1, hlt, -⟩ := hr.plain (by omega)
  rw [hL] at HK RD hlc ⊢
  clear h4 hr hwf
  clear hL
  generalize hT : decide (L = sealL (L.take 18)) = T at *
  have HT := hid hT
  clear hT
  go_enter Tryd.func9, Tryd.ntmps9
  go_wp2_with fail
  refine RD.out.mono ?_
  rintro e w2 ⟨rfl, hb2⟩
  clear RD
  go_wp2_with (first | ((with_reducible refine at_op (.store 38 (.tmp 3) (.tmp 11)) ?_); refine wpG_store rfl (.tmp 3) (.tmp 11) rfl w2.heap.size (nineR L) zeroZ (nineR_len L) rfl rfl rfl _ (heap_alloc_new w2 _) ?_; rw [show (#[Value.int .i32 0, Value.int .i32 0, Value.int .i32 0, Value.int .i32 0, Value.int .i32 0, Value.int .i32 0, Value.int .i32 0, Value.int .i32 0, Value.int .i32 0] : Array Value) = zcells zeroZ from rfl]; have hBW := below_setRow (hb2.alloc hb2.size (.cells (zcells zeroZ) 38)) hb2.size (zcells (nineR L)); have hrowW := setRow_heap _ w2.heap.size _ (zcells (nineR L)) _ _ (heap_alloc_new w2 (.cells (zcells zeroZ) 38)); generalize (w2.alloc (.cells (zcells zeroZ) 38)).setRow w2.heap.size (zcells (nineR L)) = W at *) | ((with_reducible refine at_op (.load 38 (.tmp 3)) ?_); refine wpG_load rfl (.tmp 3) rfl w2.heap.size rfl (nineR L) (nineR_len L) _ _ hrowW ?_))
  have FW := four_later F0.out hBW
  have PT := hid (sput_any (nineR L) (nineR_len L) (nineR_wf L) W FW)
  refine PT.out.mono ?_
  clear PT
  rintro e w4 ⟨hb4, ⟨hin, v4, rfl, hown⟩ | ⟨hno, rfl⟩⟩
  case inr => exact absurd NI.out hno
  have hB4 := chain hBW hb4
  rw [TB.out] at hown
  have hr4 := reads_of_owns hown (sealL_wf (fun x hx => u8_wf (inR_bytes L (Reads.wf (HK.out w (Below.refl _ _))) x (List.mem_of_mem_take hx)).1 (inR_bytes L (Reads.wf (HK.out w (Below.refl _ _))) x (List.mem_of_mem_take hx)).2))
  have lM : (sealL (L.take 18)).length = 20 := by rw [sealN_len, List.length_take, HL.out]; rfl
  have tM : (sealL (L.take 18)).take 18 = L.take 18 := by have := seal_take (L.take 18); rwa [List.length_take, HL.out] at this
  clear hown hin
  obtain ⟨b4, o4, c4, rfl, hc4, hm4, -, -⟩ := hr4.plain (by omega)
  rw [lM] at hc4 hr4 ⊢
  have g1 : (18 : Int) ≤ c4 := by omega
  have g2 : (18 : Int) ≤ c := by omega
  have k1 := conv_reads_later _ _ w4 (hr4.take 18 (by rw [lM]; omega))
  have k2 := conv_reads_later _ _ w4 ((HK.out w4 hB4).take 18 (by have := HL.out; omega))
  have k3 := hid (conv_reads_later _ _ w4 hr4)
  have k4 := hid (conv_reads_later _ _ w4 (HK.out w4 hB4))
  rw [tM] at k1
  generalize strOfNums (L.take 18) = SS at k1 k2
  go_wp2_with fail
  refine wp_region_F' (B := w4.heap.size) (n := 16) (l := #[false, false, false, false, false, false, false, false, false, false, false, false, false, false, false, false]) (by kernel_rfl) (by kernel_rfl) (by kernel_rfl) ?_
  refine wpAnyF_take (i := 0) (v := ?vr0_1) (some 36) rfl rfl (by kernel_rfl) (by kernel_rfl) (by kernel_rfl) (fun _ _ _ h => h) (by rfl) ?hvr0_1 ?restr0_1
  case hvr0_1 => (intro w' hb; go_simp; try with_reducible rfl)
  simp only [Act.put, List.setIfInBounds_toArray, List.set_cons_zero, List.set_cons_succ]
  refine wpAnyF_take (i := 1) (v := ?vr1_2) (some 37) rfl rfl (by kernel_rfl) (by kernel_rfl) (by kernel_rfl) (fun _ _ _ h => h) (by rfl) ?hvr1_2 ?restr1_2
  case hvr1_2 => (intro w' hb; go_simp; try with_reducible rfl)
  simp only [Act.put, List.setIfInBounds_toArray, List.set_cons_zero, List.set_cons_succ]
  refine wpAnyF_take (i := 2) (v := ?vr2_3) (some 38) rfl rfl (by kernel_rfl) (by kernel_rfl) (by kernel_rfl) (fun _ _ _ h => h) (by rfl) ?hvr2_3 ?restr2_3
  case hvr2_3 => (intro w' hb; go_simp; try with_reducible rfl)
  simp only [Act.put, List.setIfInBounds_toArray, List.set_cons_zero, List.set_cons_succ]
  refine wpAnyF_take (i := 3) (v := ?vr3_4) (some 39) rfl rfl (by kernel_rfl) (by kernel_rfl) (by kernel_rfl) (fun _ _ _ h => h) (by rfl) ?hvr3_4 ?restr3_4
  case hvr3_4 => (intro w' hb; go_simp; try with_reducible rfl)
  simp only [Act.put, List.setIfInBounds_toArray, List.set_cons_zero, List.set_cons_succ]
  refine wpAnyF_take (i := 4) (v := ?vr4_5) (some 40) rfl rfl (by kernel_rfl) (by kernel_rfl) (by kernel_rfl) (fun _ _ _ h => h) (by rfl) ?hvr4_5 ?restr4_5
  case hvr4_5 => (intro w' hb; go_simp; try with_reducible rfl)
  simp only [Act.put, List.setIfInBounds_toArray, List.set_cons_zero, List.set_cons_succ]
  refine wpAnyF_take (i := 5) (v := ?vr5_6) (some 41) rfl rfl (by kernel_rfl) (by kernel_rfl) (by kernel_rfl) (fun _ _ _ h => h) (by rfl) ?hvr5_6 ?restr5_6
  case hvr5_6 => (intro w' hb; go_simp; try with_reducible rfl)
  simp only [Act.put, List.setIfInBounds_toArray, List.set_cons_zero, List.set_cons_succ]
  refine wpAnyF_take (i := 6) (v := ?vr6_7) (some 42) rfl rfl (by kernel_rfl) (by kernel_rfl) (by kernel_rfl) (fun _ _ _ h => h) (by rfl) ?hvr6_7 ?restr6_7
  case hvr6_7 => (intro w' hb; go_simp; try with_reducible rfl)
  simp only [Act.put, List.setIfInBounds_toArray, List.set_cons_zero, List.set_cons_succ]
  refine wpAnyF_take (i := 7) (v := ?vr7_8) (some 43) rfl rfl (by kernel_rfl) (by kernel_rfl) (by kernel_rfl) (fun _ _ _ h => h) (by rfl) ?hvr7_8 ?restr7_8
  case hvr7_8 => (intro w' hb; go_simp; try with_reducible rfl)
  simp only [Act.put, List.setIfInBounds_toArray, List.set_cons_zero, List.set_cons_succ]
  refine wpAnyF_take (i := 8) (v := ?vr8_9) (some 44) rfl rfl (by kernel_rfl) (by kernel_rfl) (by kernel_rfl) (fun _ _ _ h => h) (by rfl) ?hvr8_9 ?restr8_9
  case hvr8_9 => (intro w' hb; go_simp; try with_reducible rfl)
  simp only [Act.put, List.setIfInBounds_toArray, List.set_cons_zero, List.set_cons_succ]
  refine wpAnyF_take (i := 9) (v := ?vr9_10) (some 45) rfl rfl (by kernel_rfl) (by kernel_rfl) (by kernel_rfl) (fun _ _ _ h => h) (by rfl) ?hvr9_10 ?restr9_10
  case hvr9_10 => (intro w' hb; go_simp; try with_reducible rfl)
  simp only [Act.put, List.setIfInBounds_toArray, List.set_cons_zero, List.set_cons_succ]
  refine wpAnyF_take (i := 10) (v := ?vr10_11) (some 46) rfl rfl (by kernel_rfl) (by kernel_rfl) (by kernel_rfl) (fun _ _ _ h => h) (by rfl) ?hvr10_11 ?restr10_11
  case hvr10_11 => (intro w' hb; (have kk := k1 w' (((Below.refl _ w4).drew).trans hb); go_simp; try with_reducible rfl))
  simp only [Act.put, List.setIfInBounds_toArray, List.set_cons_zero, List.set_cons_succ]
  refine wpAnyF_take (i := 11) (v := ?vr11_12) (some 47) rfl rfl (by kernel_rfl) (by kernel_rfl) (by kernel_rfl) (fun _ _ _ h => h) (by rfl) ?hvr11_12 ?restr11_12
  case hvr11_12 => (intro w' hb; go_simp; try with_reducible rfl)
  simp only [Act.put, List.setIfInBounds_toArray, List.set_cons_zero, List.set_cons_succ]
  refine wpAnyF_take (i := 12) (v := ?vr12_13) (some 48) rfl rfl (by kernel_rfl) (by kernel_rfl) (by kernel_rfl) (fun _ _ _ h => h) (by rfl) ?hvr12_13 ?restr12_13
  case hvr12_13 => (intro w' hb; go_simp; try with_reducible rfl)
  simp only [Act.put, List.setIfInBounds_toArray, List.set_cons_zero, List.set_cons_succ]
  refine wpAnyF_take (i := 13) (v := ?vr13_14) (some 49) rfl rfl (by kernel_rfl) (by kernel_rfl) (by kernel_rfl) (fun _ _ _ h => h) (by rfl) ?hvr13_14 ?restr13_14
  case hvr13_14 => (intro w' hb; (have kk := k2 w' (((Below.refl _ w4).drew).trans hb); go_simp; try with_reducible rfl))
  simp only [Act.put, List.setIfInBounds_toArray, List.set_cons_zero, List.set_cons_succ]
  refine wpAnyF_take (i := 14) (v := ?vr14_15) (some 50) rfl rfl (by kernel_rfl) (by kernel_rfl) (by kernel_rfl) (fun _ _ _ h => h) (by rfl) ?hvr14_15 ?restr14_15
  case hvr14_15 => (intro w' hb; go_simp; try with_reducible rfl)
  simp only [Act.put, List.setIfInBounds_toArray, List.set_cons_zero, List.set_cons_succ]
  refine wpAnyF_take (i := 15) (v := ?vr15_16) (some 51) rfl rfl (by kernel_rfl) (by kernel_rfl) (by kernel_rfl) (fun _ _ _ h => h) (by rfl) ?hvr15_16 ?restr15_16
  case hvr15_16 => (intro w' hb; go_simp; try with_reducible rfl)
  simp only [Act.put, List.setIfInBounds_toArray, List.set_cons_zero, List.set_cons_succ]
  refine wpAnyF_done (by kernel_rfl) ?_ _
  have hB5 := hB4.drew
  have F5 := four_later F0.out hB5
  have kk3 := k3.out _ ((Below.refl w4.heap.size w4).drew)
  have kk4 := k4.out _ ((Below.refl w4.heap.size w4).drew)
  clear k1 k2
  generalize w4.drew = W5 at *
  by_cases hok : L = sealL (L.take 18)
  · obtain rfl : T = true := by rw [← HT.out]; simpa using hok
    rw [← hok] at kk3
    clear hok
    generalize strOfNums L = S5 at kk3 kk4
    go_wp2_with fail
    refine (awake31 W5 F5).mono ?_
    rintro e w7 ⟨rfl, hb7⟩
    go_wp2
    go_ret
    exact ⟨rfl, chain hB5 hb7⟩
  · obtain rfl : T = false := by rw [← HT.out]; simpa using hok
    have hne : strOfNums (sealL (L.take 18)) ≠ strOfNums L := fun h => hok (SL.out h).symm
    clear hok
    generalize strOfNums L = S5 at kk4 hne
    generalize strOfNums (sealL (L.take 18)) = S6 at kk3 hne
    have hqq := str_neq hne
    clear hne
    go_wp2_with fail
    refine (awake31 W5 F5).mono ?_
    rintro e w7 ⟨rfl, hb7⟩
    go_wp2
    go_ret
    exact ⟨rfl, chain hB5 hb7⟩
theorem SampleAgain_walk (a0 : Option Addr) (len0 cap0 : Nat) (z0 : List Int) (w : World) (w0 : IsRow .u8 w a0 len0 cap0 z0) (h4 : Four w) :
    Calls Tryd.prog 9 #[.slice a0 len0 cap0] w fun e w' => e = .returned (.bool true) ∧ Below w.heap.size w w' := by
  obtain ⟨hl, hr⟩ := w0.reads
  have hm : len0 ≤ 9223372036854775807 := by
    obtain ⟨_, _, h, h1, h2, _⟩ := id hr
    have : len0 = (z0.take len0).length := hl.symm
    unfold maxLen at h2; omega
  by_cases h : len0 < 20
  · exact again_short a0 len0 cap0 w h4 h hm
  · by_cases h' : 20 < len0
    · exact again_long a0 len0 cap0 w h4 h' hm
    · exact again_all _ _ w hr h4 (by omega)
end Go.Proofs.YtecbfegohdllbaaDoor
