/- The page's example of layer 31 (sample). -/
import Derived.Test.YtecbfegohdllbaaDoorSampleFacts
namespace Go.Proofs.YtecbfegohdllbaaDoor
open Go.RowKit
set_option linter.unusedVariables false
set_option linter.unusedSimpArgs false
def exZ : List Int := [-2, 258, 0, 0, 0, 0, 0, 0, 1]
def exB : List Int := [255, 254, 1, 2, 0, 0, 0, 0, 0, 0, 0, 0, 0, 0, 0, 0, 0, 1]
theorem ex_bytes : twoB exZ = exB := by decide
theorem four_later {w w' : World} (h : Four w) (hb : Below w.heap.size w w') : Four w' := h.later hb
theorem decide_self (l : List Int) (n : Nat) (h : l.length = n) : decide (sealL l = sealL ((sealL l).take n)) = true := by
  subst h; rw [seal_take]; simp
set_option maxRecDepth 100000 in
set_option maxHeartbeats 2000000 in
theorem awake31 (w : World) (h4 : Four w) : Calls Tryd.prog 29 #[] w fun e w' => e = .returned (.bool true) ∧ Below w.heap.size w w' := by
  have F0 := hid h4
  clear h4
  go_enter Tryd.func29, Tryd.ntmps29
  go_wp2_with fail
  refine (sput_any zeroZ rfl (by decide) w F0.out).mono ?_
  rintro e w1 ⟨hb1, ⟨hin, v1, rfl, hown⟩ | ⟨hno, rfl⟩⟩
  case inr => exact absurd (by decide) hno
  have hr1 := reads_of_owns hown (sealL_wf (twoB_wf _))
  clear hown hin
  obtain ⟨b1, o1, c1, rfl, -, hm1, -, -⟩ := hr1.plain (by decide)
  have F1 := four_later F0.out hb1
  have RD := hid (sread_all _ _ w1 hr1 F1 rfl)
  rw [nineR_seal zeroZ rfl (by decide), decide_self (twoB zeroZ) 18 rfl] at RD
  rw [show (sealL (twoB zeroZ)).length = 20 from rfl] at *
  go_wp2_with fail
  refine (RD.out).mono ?_
  rintro e w2 ⟨rfl, hb2⟩
  clear RD hr1
  go_wp2_with ((with_reducible refine at_op (.store 38 (.tmp 3) (.tmp 16)) ?_); refine wpG_store rfl (.tmp 3) (.tmp 16) rfl w2.heap.size zeroZ zeroZ rfl rfl rfl rfl _ (heap_alloc_new w2 _) ?_)
  have hB2 := below_setRow (((chain hb1 hb2)).alloc (chain hb1 hb2).size (.cells (zcells zeroZ) 38)) (chain hb1 hb2).size (zcells zeroZ)
  have hrow := setRow_heap _ w2.heap.size _ (zcells zeroZ) _ _ (heap_alloc_new w2 (.cells (zcells zeroZ) 38))
  have hsz : w2.heap.size < ((w2.alloc (.cells (zcells zeroZ) 38)).setRow w2.heap.size (zcells zeroZ)).heap.size := lt_of_row hrow
  rw [show (#[Value.int .i32 0, Value.int .i32 0, Value.int .i32 0, Value.int .i32 0, Value.int .i32 0, Value.int .i32 0, Value.int .i32 0, Value.int .i32 0, Value.int .i32 0] : Array Value) = zcells zeroZ from rfl]
  rw [show (#[Value.int .i32 (-2), Value.int .i32 258, Value.int .i32 0, Value.int .i32 0, Value.int .i32 0, Value.int .i32 0, Value.int .i32 0, Value.int .i32 0, Value.int .i32 1] : Array Value) = zcells exZ from rfl]
  generalize (w2.alloc (.cells (zcells zeroZ) 38)).setRow w2.heap.size (zcells zeroZ) = W at *
  refine (sput_any exZ rfl (by decide) W (four_later F0.out hB2)).mono ?_
  rintro e w4 ⟨hb4, ⟨hin, v4, rfl, hown⟩ | ⟨hno, rfl⟩⟩
  case inr => exact absurd (by decide) hno
  have hB4 := chain hB2 hb4
  have hrow4 := (hb4.block _ hsz).trans hrow
  have hr4 := reads_of_owns hown (sealL_wf (twoB_wf _))
  clear hown hin
  obtain ⟨b4, o4, c4, rfl, -, hm4, -, hcell⟩ := hr4.plain (by decide)
  have hcc : ∀ i, i < 18 → w4.cell? ⟨b4, o4 + i, none⟩ = some (.int .u8 (exB.getD i 0)) := by
    intro i hi
    rw [hcell i (by rw [sealN_len, ex_bytes]; exact Nat.lt_of_lt_of_le hi (by decide))]
    have : (sealL (twoB exZ))[i]? = some (exB.getD i 0) := by
      rw [sealL, ex_bytes, List.getElem?_append_left hi, List.getD_eq_getElem?_getD, List.getElem?_eq_getElem hi]; rfl
    rw [List.getElem?_eq_getElem (by rw [sealN_len, ex_bytes]; exact Nat.lt_of_lt_of_le hi (by decide))] at this
    exact congrArg (fun x => some (Value.int .u8 x)) (Option.some.inj this)
  have k0 : w4.cell? ⟨b4, o4, none⟩ = some (.int .u8 255) := hcc 0 (by decide)
  have k1 : w4.cell? ⟨b4, o4 + 1, none⟩ = some (.int .u8 254) := hcc 1 (by decide)
  have k2 : w4.cell? ⟨b4, o4 + 2, none⟩ = some (.int .u8 1) := hcc 2 (by decide)
  have k3 : w4.cell? ⟨b4, o4 + 17, none⟩ = some (.int .u8 1) := hcc 17 (by decide)
  rw [show (sealL (twoB exZ)).length = 20 from rfl] at *
  clear hcell hcc hr4 hrow hb4 hB2
  have F4 := four_later F0.out hB4
  clear F0 F1 hb1 hb2 hsz
  go_wp2_with (first | ((with_reducible refine at_op (.load 38 (.tmp 3)) ?_); refine wpG_load rfl (.tmp 3) rfl w2.heap.size rfl zeroZ rfl _ _ hrow4 ?_) | ((with_reducible refine at_op (.binOp .eql 38 (.tmp 34) (.tmp 35) 38) ?_); refine wpG_eql rfl (.tmp 34) (.tmp 35) _ rfl zeroZ zeroZ rfl rfl rfl rfl ?_))
  go_ret
  exact ⟨rfl, hB4⟩
end Go.Proofs.YtecbfegohdllbaaDoor
