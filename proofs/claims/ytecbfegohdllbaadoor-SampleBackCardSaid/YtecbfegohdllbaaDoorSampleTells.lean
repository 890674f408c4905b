/- The law SampleTells of layer 31 (sample). -/
import Derived.Test.YtecbfegohdllbaaDoorSampleAgain
namespace Go.Proofs.YtecbfegohdllbaaDoor
open Go.RowKit
set_option linter.unusedVariables false
set_option linter.unusedSimpArgs false
/-- what Put answers, whichever it is -/
theorem both_put (Z : List Int) (hZ : Z.length = 9) (hwf : ∀ x ∈ Z, (Lit.int .i32 x).wf = true) (w : World) (h4 : Four w) : ∃ (l : List Int) (er : Int),
    (∀ w1, Below w.heap.size w w1 → Calls Tryd.prog 30 #[.agg (zcells Z)] w1 fun e w' => ∃ v, e = .returned (.tuple #[v, .int .i64 er]) ∧ Below w1.heap.size w1 w' ∧ Reads .u8 w' v l) ∧
    (∀ w1, Below w.heap.size w w1 → Calls Tryd.prog 31 #[.agg (zcells Z)] w1 fun e w' => ∃ v, e = .returned (.tuple #[v, .int .i64 er]) ∧ Below w1.heap.size w1 w' ∧ Reads .u8 w' v l) := by
  by_cases hin : ∀ x ∈ Z, inR x
  · refine ⟨sealL (twoB Z), 0, fun w1 hb => ?_, fun w1 hb => ?_⟩
    · refine (sput_any Z hZ hwf w1 (h4.later hb)).mono ?_
      rintro e w2 ⟨hb2, ⟨_, v, rfl, hown⟩ | ⟨hno, _⟩⟩
      · exact ⟨v, rfl, hb2, reads_of_owns hown (sealL_wf (twoB_wf _))⟩
      · exact absurd hin hno
    · refine (rsput_any Z hZ hwf w1).mono ?_
      rintro e w2 ⟨hb2, ⟨_, v, rfl, hown⟩ | ⟨hno, _⟩⟩
      · exact ⟨v, rfl, hb2, reads_of_owns hown (sealL_wf (twoB_wf _))⟩
      · exact absurd hin hno
  · refine ⟨[], 6, fun w1 hb => ?_, fun w1 hb => ?_⟩
    · refine (sput_any Z hZ hwf w1 (h4.later hb)).mono ?_
      rintro e w2 ⟨hb2, ⟨h, _⟩ | ⟨_, rfl⟩⟩
      · exact absurd h hin
      · exact ⟨_, rfl, hb2, reads_of_owns (ownsRow_nil _ 0 0) (fun x hx => by cases hx)⟩
    · refine (rsput_any Z hZ hwf w1).mono ?_
      rintro e w2 ⟨hb2, ⟨h, _⟩ | ⟨_, rfl⟩⟩
      · exact absurd h hin
      · exact ⟨_, rfl, hb2, reads_of_owns (ownsRow_nil _ 0 0) (fun x hx => by cases hx)⟩
/-- what Read answers, whichever it is -/
theorem both_read (v : Value) (L : List Int) (w : World) (hr : Reads .u8 w v L) (h4 : Four w) : ∃ (R : List Int) (b : Bool) (er : Int), R.length = 9 ∧
    (∀ w1, Below w.heap.size w w1 → Calls Tryd.prog 32 #[v] w1 fun e w' => e = .returned (.tuple #[.agg (zcells R), .bool b, .int .i64 er]) ∧ Below w1.heap.size w1 w') ∧
    (∀ w1, Below w.heap.size w w1 → Calls Tryd.prog 33 #[v] w1 fun e w' => e = .returned (.tuple #[.agg (zcells R), .bool b, .int .i64 er]) ∧ Below w1.heap.size w1 w') := by
  obtain ⟨a, c, rfl, h1, h2, _⟩ := id hr
  have hm : L.length ≤ 9223372036854775807 := by unfold maxLen at h2; omega
  by_cases h : L.length < 20
  · exact ⟨zeroZ, false, 4, rfl, fun w1 hb => sread_short a _ c w1 h, fun w1 hb => rsread_short a _ c w1 h⟩
  · by_cases h' : 20 < L.length
    · exact ⟨zeroZ, false, 5, rfl, fun w1 hb => sread_long a _ c w1 h' hm, fun w1 hb => rsread_long a _ c w1 h' hm⟩
    · exact ⟨nineR L, _, 0, nineR_len L, fun w1 hb => sread_all _ L w1 (hr.later hb) (h4.later hb) (by omega), fun w1 hb => rsread_all _ L w1 (hr.later hb) (by omega)⟩
set_option maxRecDepth 100000 in
set_option maxHeartbeats 4000000 in
theorem sampleTells_of (Z : List Int) (hZ : Z.length = 9) (hwf : ∀ x ∈ Z, (Lit.int .i32 x).wf = true) (a1 : Option Addr) (len1 cap1 : Nat) (z1 : List Int) (w : World) (w1 : IsRow .u8 w a1 len1 cap1 z1) (h4 : Four w) :
    Calls Tryd.prog 7 #[.agg (zcells Z), .slice a1 len1 cap1] w fun e w' => e = .returned (.bool true) ∧ Below w.heap.size w w' := by
  obtain ⟨hl, hr⟩ := w1.reads
  have F0 := hid h4
  obtain ⟨l, er, P1, P2⟩ := both_put Z hZ hwf w h4
  obtain ⟨R, bo, ef, hR, R1, R2⟩ := both_read _ _ w hr h4
  replace P1 := hid P1
  replace P2 := hid P2
  replace R1 := hid R1
  replace R2 := hid R2
  have HZ := hid hZ
  have HR := hid hR
  clear hr hl w1 h4 hwf hZ hR
  by_cases hlen : 100 < len1
  · have hlen' : (100 : Int) < len1 := by omega
    go_enter Tryd.func7, Tryd.ntmps7
    go_wp2_with fail
    have hB := (Below.refl w.heap.size w).alloc (Nat.le_refl _) (.cells (zcells Z) 38)
    generalize w.alloc (.cells (zcells Z) 38) = W at *
    refine (awake31 W (four_later F0.out hB)).mono ?_
    rintro e w5 ⟨rfl, hb5⟩
    go_wp2
    go_ret
    exact ⟨rfl, chain hB hb5⟩
  · have hlen' : ¬ (100 : Int) < len1 := by omega
    go_enter Tryd.func7, Tryd.ntmps7
    have hB := (Below.refl w.heap.size w).alloc (Nat.le_refl _) (.cells (zcells Z) 38)
    have hrow := heap_alloc_new w (.cells (zcells Z) 38)
    go_wp2_with (first | ((with_reducible refine at_op (.load 38 (.tmp 2)) ?_); refine wpG_load rfl (.tmp 2) rfl w.heap.size rfl Z HZ.out _ _ hrow ?_))
    refine (P1.out _ hB).mono ?_
    rintro e w2 ⟨v2, rfl, hb2, hr2⟩
    have hB2 := chain hB hb2
    have hrow2 := (hb2.block _ (lt_of_row hrow)).trans hrow
    clear hrow hb2
    have c2 := hid (conv_reads_later _ _ w2 hr2)
    clear hr2 P1
    go_wp2_with (first | ((with_reducible refine at_op (.load 38 (.tmp 2)) ?_); refine wpG_load rfl (.tmp 2) rfl w.heap.size rfl Z HZ.out _ _ hrow2 ?_))
    refine (P2.out _ hB2).mono ?_
    rintro e w3 ⟨v3, rfl, hb3, hr3⟩
    have hB3 := chain hB2 hb3
    have c3 := hid (conv_reads_later _ _ w3 hr3)
    replace c2 := hid (fun w' (h : Below w3.heap.size w3 w') => c2.out w' (chain hb3 h))
    clear hr3 P2 hb3 hrow2 hB2
    go_wp2_with fail
    refine (R1.out _ hB3).mono ?_
    rintro e w4 ⟨rfl, hb4⟩
    have hB4 := chain hB3 hb4
    clear R1
    go_wp2_with (first | ((with_reducible refine at_op (.store 38 (.tmp 9) (.tmp 32)) ?_); refine wpG_store rfl (.tmp 9) (.tmp 32) rfl w4.heap.size R zeroZ HR.out rfl rfl rfl _ (heap_alloc_new w4 _) ?_; rw [show (#[Value.int .i32 0, Value.int .i32 0, Value.int .i32 0, Value.int .i32 0, Value.int .i32 0, Value.int .i32 0, Value.int .i32 0, Value.int .i32 0, Value.int .i32 0] : Array Value) = zcells zeroZ from rfl]; have hBW := below_setRow (hB4.alloc hB4.size (.cells (zcells zeroZ) 38)) hB4.size (zcells R); have hrowW := setRow_heap _ w4.heap.size _ (zcells R) _ _ (heap_alloc_new w4 (.cells (zcells zeroZ) 38)); have hxW := below_setRow (hb4.alloc hb4.size (.cells (zcells zeroZ) 38)) hb4.size (zcells R); generalize (w4.alloc (.cells (zcells zeroZ) 38)).setRow w4.heap.size (zcells R) = W at *))
    have lt5 := lt_of_row hrowW
    refine (R2.out _ hBW).mono ?_
    rintro e w6 ⟨rfl, hb6⟩
    have hB6 := chain hBW hb6
    clear R2
    go_wp2_with (first | ((with_reducible refine at_op (.store 38 (.tmp 12) (.tmp 38)) ?_); refine wpG_store rfl (.tmp 12) (.tmp 38) rfl w6.heap.size R zeroZ HR.out rfl rfl rfl _ (heap_alloc_new w6 _) ?_; rw [show (#[Value.int .i32 0, Value.int .i32 0, Value.int .i32 0, Value.int .i32 0, Value.int .i32 0, Value.int .i32 0, Value.int .i32 0, Value.int .i32 0, Value.int .i32 0] : Array Value) = zcells zeroZ from rfl]; have hBV := below_setRow (hB6.alloc hB6.size (.cells (zcells zeroZ) 38)) hB6.size (zcells R); have hrowV := setRow_heap _ w6.heap.size _ (zcells R) _ _ (heap_alloc_new w6 (.cells (zcells zeroZ) 38)); have hyV := below_setRow (hb6.alloc hb6.size (.cells (zcells zeroZ) 38)) hb6.size (zcells R); generalize (w6.alloc (.cells (zcells zeroZ) 38)).setRow w6.heap.size (zcells R) = V at *; have q2 := c2.out _ (chain hxW hyV); have q3 := c3.out _ (chain hxW hyV); have hrowX := (hyV.block _ lt5).trans hrowW; generalize strOfNums l = S at q2 q3) | ((with_reducible refine at_op (.load 38 (.tmp 9)) ?_); refine wpG_load rfl (.tmp 9) rfl w4.heap.size rfl R HR.out _ _ hrowX ?_) | ((with_reducible refine at_op (.load 38 (.tmp 12)) ?_); refine wpG_load rfl (.tmp 12) rfl w6.heap.size rfl R HR.out _ _ hrowV ?_) | ((with_reducible refine at_op (.binOp .eql 38 (.tmp 52) (.tmp 53) 38) ?_); refine wpG_eql rfl (.tmp 52) (.tmp 53) _ rfl R R HR.out HR.out rfl rfl ?_))
    have F7 := four_later F0.out hBV
    refine (awake31 V F7).mono ?_
    rintro e w8 ⟨rfl, hb8⟩
    go_wp2
    go_ret
    exact ⟨rfl, chain hBV hb8⟩
/-- nine cells of one kind -/
theorem zip_nine (Z : List Int) (hZ : Z.length = 9) : (List.zipWith Value.int [.i32, .i32, .i32, .i32, .i32, .i32, .i32, .i32, .i32] Z).toArray = zcells Z := by
  obtain ⟨z0, z1, z2, z3, z4, z5, z6, z7, z8, rfl⟩ := nine_list Z hZ
  rfl
theorem wf_nine (Z : List Int) (hZ : Z.length = 9) (h : ∀ (i : Nat) (k : IntKind) (z : Int), [IntKind.i32, .i32, .i32, .i32, .i32, .i32, .i32, .i32, .i32][i]? = some k → Z[i]? = some z → (Lit.int k z).wf = true) : ∀ x ∈ Z, (Lit.int .i32 x).wf = true := by
  intro x hx
  obtain ⟨i, hi⟩ := List.getElem?_of_mem hx
  have hl : i < 9 := by have := (List.getElem?_eq_some_iff.1 hi).1; omega
  refine h i .i32 x ?_ hi
  have : ∀ i : Fin 9, [IntKind.i32, .i32, .i32, .i32, .i32, .i32, .i32, .i32, .i32][i.val]? = some .i32 := by decide
  exact this ⟨i, hl⟩
theorem SampleTells_walk (Z : List Int) (hZ : Z.length = 9) (a1 : Option Addr) (len1 cap1 : Nat) (z1 : List Int) (w : World)
    (w0 : ∀ (i : Nat) (k : IntKind) (z : Int), [IntKind.i32, .i32, .i32, .i32, .i32, .i32, .i32, .i32, .i32][i]? = some k → Z[i]? = some z → (Lit.int k z).wf = true) (w1 : IsRow .u8 w a1 len1 cap1 z1) (h4 : Four w) :
    Calls Tryd.prog 7 #[.agg (List.zipWith Value.int [.i32, .i32, .i32, .i32, .i32, .i32, .i32, .i32, .i32] Z).toArray, .slice a1 len1 cap1] w fun e w' => e = .returned (.bool true) ∧ Below w.heap.size w w' := by
  rw [zip_nine Z hZ]
  exact sampleTells_of Z hZ (wf_nine Z hZ w0) a1 len1 cap1 z1 w w1 h4
end Go.Proofs.YtecbfegohdllbaaDoor
