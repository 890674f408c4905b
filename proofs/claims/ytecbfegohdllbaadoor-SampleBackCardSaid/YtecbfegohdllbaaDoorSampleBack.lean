/- The law SampleBack of layer 31 (sample). -/
import Derived.Test.YtecbfegohdllbaaDoorSampleTells
import Derived.Test.YtecbfegohdllbaaDoorSpan
import Derived.Test.YtecbfegohdllbaaDoorFlip
namespace Go.Proofs.YtecbfegohdllbaaDoor
open Go.RowKit
set_option linter.unusedVariables false
set_option linter.unusedSimpArgs false
theorem back_is {M l : List Int} {y : BitVec 16} {N : Nat} (Y : List Int) (hM : M = sealL Y) (h18 : Y.length = 18) (hF : FlipOK M l y N) : decide (l = sealL (l.take 18)) = decide (M = l) := by
  have : (l = sealL (l.take 18)) ↔ (M = l) := by
    constructor
    · intro h
      by_cases hy : y = 0#16
      · exact (hF.2.2.2 hy).symm
      · exfalso
        have h1 := hF.2.2.1
        have h2 : crcOf l = 0#16 := by rw [h]; exact crc_seal _
        have h3 : crcOf M = 0#16 := by rw [hM]; exact crc_seal _
        rw [h2, h3, BitVec.zero_xor] at h1
        exact it_ne N y hy h1.symm
    · intro h
      subst h
      rw [hM, ← h18, seal_take]
  simp only [this]
set_option maxRecDepth 100000 in
set_option maxHeartbeats 4000000 in
theorem sampleBack_of (Z : List Int) (hZ : Z.length = 9) (hwf : ∀ x ∈ Z, (Lit.int .i32 x).wf = true) (T X : Int) (wT : (Lit.int .i64 T).wf = true) (wX : (Lit.int .u16 X).wf = true) (w : World) (h4 : Four w) :
    Calls Tryd.prog 8 #[.agg (zcells Z), .int .i64 T, .int .u16 X] w fun e w' => e = .returned (.bool true) ∧ Below w.heap.size w w' := by
  have F0 := hid h4
  have bT := hid (bd_i64 wT)
  have bX := hid (bd_u16 wX)
  have hB := (Below.refl w.heap.size w).alloc (Nat.le_refl _) (.cells (zcells Z) 38)
  have hrow := heap_alloc_new w (.cells (zcells Z) 38)
  have PT := hid (sput_any Z hZ hwf (w.alloc (.cells (zcells Z) 38)) (h4.later hB))
  have HZ := hid hZ
  clear h4 hwf hZ wT wX
  go_enter Tryd.func8, Tryd.ntmps8
  go_wp2_with (first | ((with_reducible refine at_op (.load 38 (.tmp 3)) ?_); refine wpG_load rfl (.tmp 3) rfl w.heap.size rfl Z HZ.out _ _ hrow ?_))
  refine PT.out.mono ?_
  clear PT
  rintro e w2 ⟨hb2, ⟨hin, v2, rfl, hown⟩ | ⟨hno, rfl⟩⟩
  case inr =>
    have hB2 := chain hB hb2
    have F2 := four_later F0.out hB2
    go_wp2_with fail
    refine (awake31 w2 F2).mono ?_
    rintro e w9 ⟨rfl, hb9⟩
    go_wp2
    go_ret
    exact ⟨rfl, chain hB2 hb9⟩
  have hB2 := chain hB hb2
  have hrow2 := (hb2.block _ (lt_of_row hrow)).trans hrow
  have hr2 := reads_of_owns hown (sealL_wf (twoB_wf _))
  have lM : (sealL (twoB Z)).length = 20 := by rw [sealN_len, twoB_len, HZ.out]
  have NS := nineR_seal Z HZ.out hin
  have DS := decide_self (twoB Z) 18 (by rw [twoB_len, HZ.out])
  have H18 := hid (show (twoB Z).length = 18 by rw [twoB_len, HZ.out])
  obtain ⟨Y, hY⟩ : ∃ Y, Y = twoB Z := ⟨_, rfl⟩
  rw [← hY] at hr2 lM NS DS H18
  obtain ⟨M, hM⟩ : ∃ M, M = sealL Y := ⟨_, rfl⟩
  rw [← hM] at hr2 lM NS DS
  have HMY := hid hM
  clear hown hin hY hM hrow hb2
  have RD := hid (sread_all v2 M w2 hr2 (four_later F0.out hB2) lM)
  rw [NS, DS] at RD
  have FL := hid (fun w1 (h : Below w2.heap.size w2 w1) => rflip_any v2 M T X w1 (hr2.later h) (by omega) (by omega) bT.out bX.out)
  have R2 := hid hr2
  obtain ⟨b2, o2, c2, rfl, -, -, -, -⟩ := hr2.plain (by omega)
  rw [lM] at RD FL R2 ⊢
  have LM := hid lM
  clear NS DS hr2 lM
  go_wp2_with fail
  refine RD.out.mono ?_
  clear RD
  rintro e w4 ⟨rfl, hb4⟩
  have hB4 := chain hB2 hb4
  go_wp2_with (first | ((with_reducible refine at_op (.store 38 (.tmp 9) (.tmp 32)) ?_); refine wpG_store rfl (.tmp 9) (.tmp 32) rfl w4.heap.size Z zeroZ HZ.out rfl rfl rfl _ (heap_alloc_new w4 _) ?_; rw [show (#[Value.int .i32 0, Value.int .i32 0, Value.int .i32 0, Value.int .i32 0, Value.int .i32 0, Value.int .i32 0, Value.int .i32 0, Value.int .i32 0, Value.int .i32 0] : Array Value) = zcells zeroZ from rfl]; have hBW := below_setRow (hB4.alloc hB4.size (.cells (zcells zeroZ) 38)) hB4.size (zcells Z); have hrowW := setRow_heap _ w4.heap.size _ (zcells Z) _ _ (heap_alloc_new w4 (.cells (zcells zeroZ) 38)); have hxW := below_setRow (hb4.alloc hb4.size (.cells (zcells zeroZ) 38)) hb4.size (zcells Z); generalize (w4.alloc (.cells (zcells zeroZ) 38)).setRow w4.heap.size (zcells Z) = W at *))
  have lt5 := lt_of_row hrowW
  have hrow3W := (hxW.block _ (lt_of_row hrow2)).trans hrow2
  refine (FL.out W hxW).mono ?_
  clear FL
  rintro e w5 ⟨v5, l, y, rfl, hb5, hown5, hF⟩
  have hB5 := chain hBW hb5
  have hr5 := reads_of_owns hown5 hF.2.1
  have ll : l.length = 20 := hF.1.trans LM.out
  have R5 := hid (sread_all v5 l w5 hr5 (four_later F0.out hB5) ll)
  rw [back_is Y HMY.out H18.out hF] at R5
  have SP := hid (fun w1 (h : Below w5.heap.size w5 w1) => rspan_any _ v5 M l w1 ((R2.out.later (chain hxW hb5)).later (h.mono (Nat.le_refl _))) (hr5.later h) (by rw [ll, LM.out]) (by rw [LM.out]; decide))
  have hrowW5 := (hb5.block _ lt5).trans hrowW
  have hrow05 := (hb5.block _ (lt_of_row hrow3W)).trans hrow3W
  obtain ⟨b5, o5, c5, rfl, -, -, -, -⟩ := hr5.plain (by omega)
  rw [ll] at R5 SP
  clear hown5 hF hr5 hrow2 hrow3W
  rw [ll]
  clear ll
  generalize hbo : decide (M = l) = bo at R5
  have HBO := hid hbo
  clear hbo
  go_wp2_with fail
  refine R5.out.mono ?_
  clear R5
  rintro e w6 ⟨rfl, hb6⟩
  have hB6 := chain hB5 hb6
  go_wp2_with (first | ((with_reducible refine at_op (.store 38 (.tmp 13) (.tmp 42)) ?_); refine wpG_store rfl (.tmp 13) (.tmp 42) rfl w6.heap.size (nineR l) zeroZ (nineR_len l) rfl rfl rfl _ (heap_alloc_new w6 _) ?_; rw [show (#[Value.int .i32 0, Value.int .i32 0, Value.int .i32 0, Value.int .i32 0, Value.int .i32 0, Value.int .i32 0, Value.int .i32 0, Value.int .i32 0, Value.int .i32 0] : Array Value) = zcells zeroZ from rfl]; have hBV := below_setRow (hB6.alloc hB6.size (.cells (zcells zeroZ) 38)) hB6.size (zcells (nineR l)); have hrowV := setRow_heap _ w6.heap.size _ (zcells (nineR l)) _ _ (heap_alloc_new w6 (.cells (zcells zeroZ) 38)); have hyV := below_setRow (hb6.alloc hb6.size (.cells (zcells zeroZ) 38)) hb6.size (zcells (nineR l)); generalize (w6.alloc (.cells (zcells zeroZ) 38)).setRow w6.heap.size (zcells (nineR l)) = V at *; have hrowX := (hyV.block _ (lt_of_row hrowW5)).trans hrowW5; have hrow0 := (hyV.block _ (lt_of_row hrow05)).trans hrow05) | ((with_reducible refine at_op (.load 38 (.tmp 9)) ?_); refine wpG_load rfl (.tmp 9) rfl w4.heap.size rfl Z HZ.out _ _ hrowX ?_) | ((with_reducible refine at_op (.load 38 (.tmp 3)) ?_); refine wpG_load rfl (.tmp 3) rfl w.heap.size rfl Z HZ.out _ _ hrow0 ?_) | ((with_reducible refine at_op (.binOp .eql 38 (.tmp 45) (.tmp 46) 38) ?_); refine wpG_eql rfl (.tmp 45) (.tmp 46) _ rfl Z Z HZ.out HZ.out rfl rfl ?_))
  refine (SP.out V hyV).mono ?_
  rintro e w8 ⟨s, rfl, hs, hb8⟩
  have hB8 := chain hBV hb8
  have F8 := four_later F0.out hB8
  obtain rfl : bo = (s == 0) := by rw [← HBO.out, Bool.eq_iff_iff]; simpa using hs.symm
  go_wp2_with fail
  refine (awake31 w8 F8).mono ?_
  rintro e w9 ⟨rfl, hb9⟩
  go_wp2
  go_ret
  exact ⟨rfl, chain hB8 hb9⟩
theorem SampleBack_walk (Z : List Int) (hZ : Z.length = 9) (a1 a2 : Int) (w : World)
    (w0 : ∀ (i : Nat) (k : IntKind) (z : Int), [IntKind.i32, .i32, .i32, .i32, .i32, .i32, .i32, .i32, .i32][i]? = some k → Z[i]? = some z → (Lit.int k z).wf = true) (w1 : (Lit.int .i64 a1).wf = true) (w2 : (Lit.int .u16 a2).wf = true) (h4 : Four w) :
    Calls Tryd.prog 8 #[.agg (List.zipWith Value.int [.i32, .i32, .i32, .i32, .i32, .i32, .i32, .i32, .i32] Z).toArray, .int .i64 a1, .int .u16 a2] w fun e w' => e = .returned (.bool true) ∧ Below w.heap.size w w' := by
  rw [zip_nine Z hZ]
  exact sampleBack_of Z hZ (wf_nine Z hZ w0) a1 a2 w1 w2 w h4
end Go.Proofs.YtecbfegohdllbaaDoor
