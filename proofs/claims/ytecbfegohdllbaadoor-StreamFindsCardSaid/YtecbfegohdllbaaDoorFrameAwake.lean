/- The page's example of layer 36 (frame). -/
import Derived.Test.YtecbfegohdllbaaDoorFrameAll
namespace Go.Proofs.YtecbfegohdllbaaDoor
open Go.RowKit
set_option linter.unusedVariables false
set_option linter.unusedSimpArgs false
theorem bytes_bd (L : List Int) (h : ∀ x ∈ L, (Lit.int .u8 x).wf = true) : ∀ x ∈ L, 0 ≤ x ∧ x ≤ 255 := fun x hx => bd_u8 (h x hx)
def exR : List Int := [0, 258, 0, 0, 0, 0, 0, 0, 0, 0, -2]
theorem exR_wf : RepWf exR := RepBd.wf ⟨by omega, by omega, by omega, by omega, by omega, by omega, by omega, by omega, by omega, by omega, by omega⟩
theorem exR_right : RightL exR := by refine ⟨?_, ?_, ?_, ?_, ?_, ?_, ?_⟩ <;> first | exact ⟨by decide, by decide⟩ | decide
theorem ex_body : bodyL exR = [1, 0, 1, 2, 0, 0, 0, 0, 0, 0, 0, 0, 0, 0, 0, 0, 0, 0, 0, 0, 0, 0, 0, 0, 0, 0, 0, 0, 255, 254] := by decide
theorem zero_body : bodyL zeroR = [1, 0, 0, 0, 0, 0, 0, 0, 0, 0, 0, 0, 0, 0, 0, 0, 0, 0, 0, 0, 0, 0, 0, 0, 0, 0, 0, 0, 0, 0] := by decide
theorem fc_put {Z : List Int} {a0 a1 : Addr} {w : World} (hZ : RepWf Z) (hR : RightL Z) (hF : FC a0 a1 w) :
    Calls Tryd.prog 37 #[.agg (rcells Z)] w fun e w' => ∃ v, e = .returned (.tuple #[v, .int .i64 0]) ∧ Below w.heap.size w w' ∧ Reads .u8 w' v (frameL Z) := by
  refine (fput_any Z hZ a0 a1 w hF).mono ?_
  rintro e w' ⟨v, rfl, hb, hown⟩
  rw [putE_right hR]
  rw [putL_right hR] at hown
  exact ⟨v, rfl, hb, reads_of_owns hown (frameL_wf Z hZ.1)⟩
theorem frame_at {Z : List Int} {w : World} {b off : Nat} (H : BytesAt b off (frameL Z) w) {i : Nat} {x : Int} (h : (bodyL Z)[i]? = some x) : w.cell? ⟨b, off + i, none⟩ = some (.int .u8 x) := by
  refine (H.2 i x ?_).1
  rw [frameL, sealL, List.getElem?_append_left (List.getElem?_eq_some_iff.1 h).1]
  exact h
set_option maxRecDepth 100000 in
set_option maxHeartbeats 2000000 in
theorem awake36 (a0 a1 : Addr) (w : World) (hF : FC a0 a1 w) : Calls Tryd.prog 36 #[] w fun e w' => e = .returned (.bool true) ∧ Below w.heap.size w w' := by
  have F0 := hid hF
  clear hF
  go_enter Tryd.func36, Tryd.ntmps36
  go_wp2_with fail
  refine (fc_put zero_wf zero_right F0.out).mono ?_
  rintro e w1 ⟨v1, rfl, hB1, hr1⟩
  have F1 := F0.out.later hB1
  have GT := fget_any v1 _ a0 a1 w1 hr1 F1.1 F1.2
  rw [got_frame zeroR zero_wf zero_right, (get_frame zeroR zero_wf zero_right).1] at GT
  replace GT := hid GT
  obtain ⟨b1, o1, c1, rfl, hc1, -, H1⟩ := reads_bytes hr1 (by decide)
  rw [frameL_len zeroR rfl] at hc1 GT ⊢
  have H1' := hid H1
  clear hr1 F1 H1
  go_wp2_with fail
  refine GT.out.mono ?_
  rintro e w2 ⟨rfl, hb2⟩
  have hB2 := chain hB1 hb2
  clear GT
  go_wp2_with (first | ((with_reducible refine at_op (.alloc 50) ?_); refine wpR_alloc rfl rfl ?_; intro g3 w3 hg3 hR3 hb3; have hl3 : w2.heap.size ≤ g3 := Nat.le_of_eq hg3.symm; clear hg3) | ((with_reducible refine at_op (.store 50 (.tmp 3) (.tmp 15)) ?_); refine wpR_put rfl (.tmp 3) (.tmp 15) rfl g3 w2.heap.size zeroR zeroR rfl rfl rfl rfl hR3 hl3 ?_; intro w4 hR4 hb4))
  have hB4 := (hB2.trans (hb3.mono hB2.size)).trans (hb4.mono hB2.size)
  have hb14 : Below w1.heap.size w1 w4 := (hb2.trans (hb3.mono hb2.size)).trans (hb4.mono hb2.size)
  clear hR3 hb3 hb4 hl3
  refine (fc_put exR_wf exR_right (F0.out.later hB4)).mono ?_
  rintro e w5 ⟨v5, rfl, hb5, hr5⟩
  have hB5 := chain hB4 hb5
  have hR5 := hR4.later hb5
  obtain ⟨b5, o5, c5, rfl, hc5, -, H5⟩ := reads_bytes hr5 (by decide)
  rw [frameL_len exR rfl] at hc5 ⊢
  have j0 := (chain hb14 hb5).cell (p := ⟨b1, o1, none⟩) H1'.out.1 |>.trans (by simpa using frame_at H1'.out (i := 0) (x := 1) (by rw [zero_body]; rfl))
  have k2 := frame_at H5 (i := 2) (x := 1) (by rw [ex_body]; rfl)
  have k3 := frame_at H5 (i := 3) (x := 2) (by rw [ex_body]; rfl)
  have k28 := frame_at H5 (i := 28) (x := 255) (by rw [ex_body]; rfl)
  have k29 := frame_at H5 (i := 29) (x := 254) (by rw [ex_body]; rfl)
  clear H5 hr5 hb14 hb5 hR4 H1'
  go_wp2_with (first | ((with_reducible refine at_op (.load 50 (.tmp 3)) ?_); refine wpR_get rfl (.tmp 3) rfl g3 rfl zeroR rfl hR5 ?_) | ((with_reducible refine at_op (.binOp .eql 50 (.tmp 37) (.tmp 38) 50) ?_); refine wpR_eql rfl (.tmp 37) (.tmp 38) _ rfl zeroR zeroR rfl rfl rfl rfl ?_))
  go_ret
  exact ⟨rfl, hB5⟩
end Go.Proofs.YtecbfegohdllbaaDoor
