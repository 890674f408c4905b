/- Texts of this proof, merged: Stream4 FrameAwake StreamAwake StreamRows. -/
import Derived.Test.YtecbfegohdllbaaDoorStream3
import Derived.Test.YtecbfegohdllbaaDoorPackJ
import Derived.Maps.AppendAt
section
/- Layer 46 (stream): the reference's Look: a contract. -/
namespace Go.Proofs.YtecbfegohdllbaaDoor
open Go.RowKit
set_option linter.unusedVariables false
set_option linter.unusedSimpArgs false
set_option maxRecDepth 100000 in
set_option maxHeartbeats 2000000 in
theorem rlook_any (v : Value) (Y : List Int) (w : World) (hr : Reads .u8 w v Y) (hl : Y.length ≤ 1000000) :
    Calls Tryd.prog 44 #[v] w fun e w' => ∃ u, e = .returned (.tuple #[u, .int .i64 (look Y).2.1, .int .i64 (look Y).2.2.length]) ∧ Below w.heap.size w w' ∧ Rows' w.heap.size w' u (look Y).1 := by
  have hwf := Reads.wf hr
  have HR := hid (fun W (hW : Below w.heap.size w W) => hr.later hW)
  obtain ⟨i0, hi0, hz0, hz1, hz2⟩ := info_parts Tryd.infoRep
  obtain ⟨a, c, rfl, h1, h2, -, h4, -⟩ := id hr
  have HP := hid (fun (h : 0 < Y.length) => hr.plain h)
  have LK0 : LK Y 0 [] Y 0 := ⟨by simp, rfl, rfl, Int.le_refl _, by omega, fun x hx => bd_u8 (hwf x hx)⟩
  have HCL := hid (look_count Y)
  clear hr hwf h4
  obtain ⟨n, hn⟩ : ∃ n, n = Y.length := ⟨_, rfl⟩
  have HN := hid hn
  rw [← hn] at hl h1 ⊢
  clear hn
  go_enter Tryd.func44, Tryd.ntmps44
  go_wp2_with fail
  go_loopw [5, 6, 7] (fun o l t wr => ∃ (pre : List (List Int)) (lost : Int) (k : Nat), k ≤ n ∧ t = .int .i64 k ∧ l = .int .i64 lost ∧ Rows' w.heap.size wr o pre ∧ Below w.heap.size w wr ∧ LK Y 0 pre (Y.drop k) lost) (fun _ _ t _ => n - (intOf t).toNat)
  case atStart => exact ⟨[], 0, 0, by omega, rfl, rfl, World.ownsRow_nil _ _ _ _, Below.refl _ _, by simpa using LK0⟩
  case round =>
    obtain ⟨pre, lost, k, hk, rfl, rfl, hown, hbw, hlk⟩ := hrel
    have hkl : (Y.drop k).length = n - k := by rw [List.length_drop]; have := HN.out; omega
    by_cases hlt : k + 32 ≤ n
    · have hlt' : (k : Int) + 32 ≤ n := by omega
      have hk0 : (k : Int) ≤ 1000000 := by omega
      have hc1 : ¬ c = k := by omega
      obtain ⟨b, off, cc, hv, -, -, -, -⟩ := HP.out (by have := HN.out; omega)
      obtain ⟨rfl, -, rfl⟩ := Value.slice.inj hv
      have hrk := (HR.out wr hbw)
      have hrd : Reads .u8 wr (.slice (some ⟨b, off + k, none⟩) 32 (c - k)) ((Y.drop k).take 32) := (reads_drop hrk (by have := HN.out; omega)).take 32 (by rw [hkl]; omega)
      have hYb : ∀ x ∈ (Y.drop k).take 32, 0 ≤ x ∧ x ≤ 255 := fun x hx => hlk.2.2.2.2.2 x (List.mem_of_mem_take hx)
      have GT := hid (rget_any _ _ wr hrd)
      have HG := hid (got_wf _ hYb).1
      have hshort : ¬ (Y.drop k).length < 32 := by rw [hkl]; omega
      have MISS := hid (fun he => hlk.miss hshort he)
      have HIT := hid (fun he => hlk.hit hshort he)
      have GR := hid (fun (he : getE ((Y.drop k).take 32) = 0) => (show gotR ((Y.drop k).take 32) = getR ((Y.drop k).take 32) by rw [gotR, if_pos he]))
      have HPL := hid (show pre.length ≤ 100000 by
        have h1 := congrArg List.length hlk.1
        have h2 := HCL.out.1
        have h3 := HN.out
        rw [List.length_append] at h1; omega)
      obtain ⟨q0, q1⟩ : 0 ≤ lost ∧ lost ≤ 1000000 := ⟨hlk.2.2.2.1, by have := hlk.2.2.2.2.1; omega⟩
      have DD1 : (Y.drop k).drop 1 = Y.drop (k + 1) := by rw [List.drop_drop]
      have DD2 : (Y.drop k).drop 32 = Y.drop (k + 32) := by rw [List.drop_drop]
      rw [DD1] at MISS
      rw [DD2] at HIT
      obtain ⟨ua, uc, rfl⟩ := own_slice hown
      have OWN0 := hid hown
      clear hlk hrk hrd hYb hshort DD1 DD2 hv hown
      generalize getE ((Y.drop k).take 32) = er at *
      generalize gotR ((Y.drop k).take 32) = G at *
      go_wp2_with fail
      refine GT.out.mono ?_
      rintro e w2 ⟨rfl, hb2⟩
      clear GT
      by_cases he : er = 0
      · have LKH := hid (HIT.out he)
        have hGG := GR.out he
        rw [← hGG] at LKH
        subst he
        clear HIT MISS GR hGG
        go_wp2_with (first | ((with_reducible refine at_op (.alloc 50) ?_); refine wpR_alloc rfl rfl ?_; intro g5 w5 hg5 hR5 hb5; have hl5 : w2.heap.size ≤ g5 := Nat.le_of_eq hg5.symm; clear hg5) | ((with_reducible refine at_op (.store 50 (.tmp 8) (.tmp 22)) ?_); refine wpR_put rfl (.tmp 8) (.tmp 22) rfl g5 w2.heap.size G zeroR HG.out rfl rfl rfl hR5 hl5 ?_; intro w6 hR6 hb6; (have hb26 := hb5.trans (hb6.mono (Nat.le_refl _)); have hB6 := hbw.trans (hb2.trans (hb26.mono hb2.size) |>.mono hbw.size); have OWN := hid (ownsRow_below OWN0.out (hb2.trans (hb26.mono hb2.size))); have hsz6 := hid hB6.size)) | ((with_reducible refine at_op (.load 50 (.tmp 8)) ?_); refine wpR_get rfl (.tmp 8) rfl g5 rfl G HG.out hR6 ?_) | ((with_reducible refine at_op (.buildSlice 60 1 #[(0, .tmp 27)]) ?_); refine wpList_plain rfl (fun K hK => ?_); refine wp_slice1_rep (.tmp 27) rfl G HG.out rfl ?_; intro g8 w8 hg8 hR8 hb8; clear hg8; refine hK _ _ ?_) | ((with_reducible refine at_op (.call { callee := .builtin .append, args := #[.tmp 26, .tmp 28], argTypes := #[60, 60] }) ?_); refine wpList_plain rfl (fun K hK => ?_); refine wp_append_own w8 (.tmp 26) (.tmp 28) 60 rfl w.heap.size 50 i0 (.agg (rcells zeroR)) 11 64 Tryd.underlying60 hi0 hz0 hz1 hz2 rfl (by decide) _ pre.length (repCells pre) rfl (ownsRow_below OWN.out hb8) ⟨g8, 0, none⟩ 1 1 (rcells G).toList rfl (rcells_list_len G HG.out) ?_ ?_ ?_ ?_ ?_ ?_; (intro j t hj; rw [add_plain, Nat.zero_add]; exact (cell_of_row w8 g8 j _ _ _ hR8).trans (by rw [← hj, Array.getElem?_toList])); (intro t ht; exact Array.all_eq_true_iff_forall_mem.1 (rcells_one G) t (by simpa using ht)); (have := HPL.out; simp [maxLen]; omega); (have := HPL.out; omega); (have := hb8.size; have := hsz6.out; omega); intro v' w9 hown9 hg9 _; obtain ⟨va9, vc9, rfl⟩ := own_slice hown9; refine hK _ _ ?_))
        have hB9 : Below w.heap.size w w9 := (hB6.trans (hb8.mono hB6.size)).grown hg9 (Nat.le_trans hB6.size hb8.size) (fun k e => (ownsRow_below OWN.out hb8 |>.lt k e).1)
        go_roundw
        case rel =>
          refine ⟨pre ++ [G], lost, k + 32, by omega, by go_num, rfl, ?_, hB9, LKH.out⟩
          unfold Rows'
          rw [List.length_append, repCells_snoc]
          exact hown9
        case measure => simp [intOf]; omega
      · have LKM := hid (MISS.out he)
        have hne : (er == 0) = false := by simpa using he
        clear HIT MISS GR he
        go_wp2_with (first | ((with_reducible refine at_op (.alloc 50) ?_); refine wpR_alloc rfl rfl ?_; intro g5 w5 hg5 hR5 hb5; have hl5 : w2.heap.size ≤ g5 := Nat.le_of_eq hg5.symm; clear hg5) | ((with_reducible refine at_op (.store 50 (.tmp 8) (.tmp 22)) ?_); refine wpR_put rfl (.tmp 8) (.tmp 22) rfl g5 w2.heap.size G zeroR HG.out rfl rfl rfl hR5 hl5 ?_; intro w6 hR6 hb6))
        have hb26 := hb5.trans (hb6.mono (Nat.le_refl _))
        have hB6 := hbw.trans ((hb2.trans (hb26.mono hb2.size)).mono hbw.size)
        have OWN := ownsRow_below OWN0.out (hb2.trans (hb26.mono hb2.size))
        go_roundw
        case rel => exact ⟨pre, lost + 1, k + 1, by omega, by go_num, by go_num, OWN, hB6, LKM.out⟩
        case measure => simp [intOf]; omega
    · have hlt' : ¬ (k : Int) + 32 ≤ n := by omega
      have hkn : (k : Int) ≤ n := by omega
      have hn9 : (n : Int) ≤ 1000000 := by omega
      obtain ⟨d1, d2, d3⟩ := hlk.done (by rw [hkl]; omega)
      have D3 := hid (show ((n : Int) - k) = (look Y).2.2.length by rw [d2, hkl]; omega)
      have D2 := hid (show lost = (look Y).2.1 by omega)
      have D1 := hid d1
      obtain ⟨ua, uc, rfl⟩ := own_slice hown
      clear d1 d2 d3 hlk hkl
      go_wp2
      go_ret3
      refine ⟨_, ?_, hbw, by rw [← D1.out]; exact hown⟩
      rw [D3.out, D2.out]
      rfl
end Go.Proofs.YtecbfegohdllbaaDoor
end
section
/- The page's example of layer 36 (frame). -/
namespace Go.Proofs.YtecbfegohdllbaaDoor
open Go.RowKit
set_option linter.unusedVariables false
set_option linter.unusedSimpArgs false
theorem bytes_bd (L : List Int) (h : ∀ x ∈ L, (Lit.int .u8 x).wf = true) : ∀ x ∈ L, 0 ≤ x ∧ x ≤ 255 := fun x hx => bd_u8 (h x hx)
def exR : List Int := [0, 258, 0, 0, 0, 0, 0, 0, 0, 0, -2]
theorem exR_wf : RepWf exR := RepBd.wf ⟨by omega, by omega, by omega, by omega, by omega, by omega, by omega, by omega, by omega, by omega, by omega⟩
theorem exR_right : RightL exR := by refine ⟨?_, ?_, ?_, ?_, ?_, ?_, ?_⟩ <;> first | exact ⟨by decide, by decide⟩ | decide
theorem ex_body : bodyL exR = [1, 0, 1, 2, 0, 0, 0, 0, 0, 0, 0, 0, 0, 0, 0, 0, 0, 0, 0, 0, 0, 0, 0, 0, 0, 0, 0, 0, 255, 254] := by decide
theorem zero_body : bodyL zeroR = [1, 0, 0, 0, 0, 0, 0, 0, 0, 0, 0, 0, 0, 0, 0, 0, 0, 0, 0, 0, 0, 0, 0, 0, 0, 0, 0, 0, 0, 0] := by decide
theorem fc_put {Z : List Int} {a0 a1 : Addr} {w : World} (hZ : RepWf Z) (hR : RightL Z) (hF : FC a0 a1 w) :
    Calls Tryd.prog 37 #[.agg (rcells Z)] w fun e w' => ∃ v, e = .returned (.tuple #[v, .int .i64 0]) ∧ Below w.heap.size w w' ∧ Reads .u8 w' v (frameL Z) := by
  refine (fput_any Z hZ a0 a1 w hF).mono ?_
  rintro e w' ⟨v, rfl, hb, hown⟩
  rw [putE_right hR]
  rw [putL_right hR] at hown
  exact ⟨v, rfl, hb, reads_of_owns hown (frameL_wf Z hZ.1)⟩
theorem frame_at {Z : List Int} {w : World} {b off : Nat} (H : BytesAt b off (frameL Z) w) {i : Nat} {x : Int} (h : (bodyL Z)[i]? = some x) : w.cell? ⟨b, off + i, none⟩ = some (.int .u8 x) := by
  refine (H.2 i x ?_).1
  rw [frameL, sealL, List.getElem?_append_left (List.getElem?_eq_some_iff.1 h).1]
  exact h
set_option maxRecDepth 100000 in
set_option maxHeartbeats 2000000 in
theorem awake36 (a0 a1 : Addr) (w : World) (hF : FC a0 a1 w) : Calls Tryd.prog 36 #[] w fun e w' => e = .returned (.bool true) ∧ Below w.heap.size w w' := by
  have F0 := hid hF
  clear hF
  go_enter Tryd.func36, Tryd.ntmps36
  go_wp2_with fail
  refine (fc_put zero_wf zero_right F0.out).mono ?_
  rintro e w1 ⟨v1, rfl, hB1, hr1⟩
  have F1 := F0.out.later hB1
  have GT := fget_any v1 _ a0 a1 w1 hr1 F1.1 F1.2
  rw [got_frame zeroR zero_wf zero_right, (get_frame zeroR zero_wf zero_right).1] at GT
  replace GT := hid GT
  obtain ⟨b1, o1, c1, rfl, hc1, -, H1⟩ := reads_bytes hr1 (by decide)
  rw [frameL_len zeroR rfl] at hc1 GT ⊢
  have H1' := hid H1
  clear hr1 F1 H1
  go_wp2_with fail
  refine GT.out.mono ?_
  rintro e w2 ⟨rfl, hb2⟩
  have hB2 := chain hB1 hb2
  clear GT
  go_wp2_with (first | ((with_reducible refine at_op (.alloc 50) ?_); refine wpR_alloc rfl rfl ?_; intro g3 w3 hg3 hR3 hb3; have hl3 : w2.heap.size ≤ g3 := Nat.le_of_eq hg3.symm; clear hg3) | ((with_reducible refine at_op (.store 50 (.tmp 3) (.tmp 15)) ?_); refine wpR_put rfl (.tmp 3) (.tmp 15) rfl g3 w2.heap.size zeroR zeroR rfl rfl rfl rfl hR3 hl3 ?_; intro w4 hR4 hb4))
  have hB4 := (hB2.trans (hb3.mono hB2.size)).trans (hb4.mono hB2.size)
  have hb14 : Below w1.heap.size w1 w4 := (hb2.trans (hb3.mono hb2.size)).trans (hb4.mono hb2.size)
  clear hR3 hb3 hb4 hl3
  refine (fc_put exR_wf exR_right (F0.out.later hB4)).mono ?_
  rintro e w5 ⟨v5, rfl, hb5, hr5⟩
  have hB5 := chain hB4 hb5
  have hR5 := hR4.later hb5
  obtain ⟨b5, o5, c5, rfl, hc5, -, H5⟩ := reads_bytes hr5 (by decide)
  rw [frameL_len exR rfl] at hc5 ⊢
  have j0 := (chain hb14 hb5).cell (p := ⟨b1, o1, none⟩) H1'.out.1 |>.trans (by simpa using frame_at H1'.out (i := 0) (x := 1) (by rw [zero_body]; rfl))
  have k2 := frame_at H5 (i := 2) (x := 1) (by rw [ex_body]; rfl)
  have k3 := frame_at H5 (i := 3) (x := 2) (by rw [ex_body]; rfl)
  have k28 := frame_at H5 (i := 28) (x := 255) (by rw [ex_body]; rfl)
  have k29 := frame_at H5 (i := 29) (x := 254) (by rw [ex_body]; rfl)
  clear H5 hr5 hb14 hb5 hR4 H1'
  go_wp2_with (first | ((with_reducible refine at_op (.load 50 (.tmp 3)) ?_); refine wpR_get rfl (.tmp 3) rfl g3 rfl zeroR rfl hR5 ?_) | ((with_reducible refine at_op (.binOp .eql 50 (.tmp 37) (.tmp 38) 50) ?_); refine wpR_eql rfl (.tmp 37) (.tmp 38) _ rfl zeroR zeroR rfl rfl rfl rfl ?_))
  go_ret
  exact ⟨rfl, hB5⟩
end Go.Proofs.YtecbfegohdllbaaDoor
end
section
/- The page's example of layer 46 (stream). -/
namespace Go.Proofs.YtecbfegohdllbaaDoor
open Go.RowKit
set_option linter.unusedVariables false
set_option linter.unusedSimpArgs false
theorem push_nil (v : Value) (w : World) : Calls Tryd.prog 43 #[.pointer none, v] w fun e w' => e = .returned (.slice none 0 0) ∧ w = w' := by
  go_enter Tryd.func43, Tryd.ntmps43
  go_wp2
  go_ret
  exact ⟨rfl, rfl⟩
theorem push_odd (g : Nat) (v x0 x1 : Value) (w : World) (h : w.heap[g]? = some (.cells #[x0, x1, .bool false] 112 (0, 0))) : Calls Tryd.prog 43 #[.pointer (some ⟨g, 0, none⟩), v] w fun e w' => e = .returned (.slice none 0 0) ∧ w = w' := by
  have c2 := (cell_of_row w g 2 _ _ _ h).trans (rfl : _ = some (Value.bool false))
  clear h
  go_enter Tryd.func43, Tryd.ntmps43
  go_wp2
  go_ret
  exact ⟨rfl, rfl⟩
def ex5 : List Int := [0, 5, 0, 0, 0, 0, 0, 0, 0, 0, 0]
theorem ex5_wf : RepWf ex5 := RepBd.wf ⟨by omega, by omega, by omega, by omega, by omega, by omega, by omega, by omega, by omega, by omega, by omega⟩
theorem ex5_right : RightL ex5 := by refine ⟨?_, ?_, ?_, ?_, ?_, ?_, ?_⟩ <;> first | exact ⟨by decide, by decide⟩ | decide
theorem ex5_look : look (7 :: frameL ex5) = ([ex5], 1, []) := by
  have hl := frameL_len ex5 rfl
  have h1 : ¬ (7 :: frameL ex5).length < 32 := by rw [List.length_cons, hl]; decide
  have h2 : ¬ getE ((7 :: frameL ex5).take 32) = 0 := by
    intro h
    have := (getE_zero h).2.2.1
    simp at this
  rw [look_miss h1 h2]
  have h3 : (7 :: frameL ex5).drop 1 = [ex5].flatMap frameL := by simp
  rw [h3, look_frames [ex5] (by intro Z hZ; simp at hZ; subst hZ; exact ⟨ex5_wf, ex5_right⟩)]
theorem rc_put {Z : List Int} {w : World} (hZ : RepWf Z) (hR : RightL Z) :
    Calls Tryd.prog 38 #[.agg (rcells Z)] w fun e w' => ∃ v, e = .returned (.tuple #[v, .int .i64 0]) ∧ Below w.heap.size w w' ∧ Reads .u8 w' v (frameL Z) := by
  refine (rfput_any Z hZ w).mono ?_
  rintro e w' ⟨v, rfl, hb, hown⟩
  rw [putE_right hR]
  rw [putL_right hR] at hown
  exact ⟨v, rfl, hb, reads_of_owns hown (frameL_wf Z hZ.1)⟩
set_option maxRecDepth 100000 in
set_option maxHeartbeats 2000000 in
theorem awake46 (a0 a1 : Addr) (w : World) (hF : FC a0 a1 w) : Calls Tryd.prog 42 #[] w fun e w' => e = .returned (.bool true) ∧ Below w.heap.size w w' := by
  obtain ⟨i0, hi, hz0, hz1, hz2⟩ := info_parts Tryd.infoU8
  have F0 := hid hF
  clear hF
  go_enter Tryd.func42, Tryd.ntmps42
  go_wp2_with fail
  refine (rc_put ex5_wf ex5_right).mono ?_
  rintro e w1 ⟨v1, rfl, hB1, hr1⟩
  go_wp2_with fail
  refine (new_any (Ok := fun _ => True) w1).mono ?_
  rintro e w2 ⟨rfl, hs2, hb2⟩
  have hB2 := chain hB1 hb2
  have hr2 := hr1.later hb2
  have hge : w.heap.size ≤ w1.heap.size := hB1.size
  have hlt : w1.heap.size < w2.heap.size := by obtain ⟨_, _, h, _⟩ := hs2; exact lt_of_row h
  generalize w1.heap.size = g at *
  clear hr1 hb2
  go_wp2_with fail
  have q0 : (w2.alloc (.cells #[.slice none 0 0, .int .i64 0, .bool false] 112)).heap[w2.heap.size]? = _ := heap_alloc_new w2 _
  have hb3 := (Below.refl _ w2).alloc (Nat.le_refl _) (.cells #[.slice none 0 0, .int .i64 0, .bool false] 112)
  have hs3 := hs2.below hb3
  have hB3 := chain hB2 hb3
  have hr3 := hr2.later hb3
  have hsz3 : w2.heap.size < (w2.alloc (.cells #[.slice none 0 0, .int .i64 0, .bool false] 112)).heap.size := by simp
  generalize w2.alloc (.cells #[.slice none 0 0, .int .i64 0, .bool false] 112) = w3 at *
  refine (push_nil v1 w3).mono ?_
  rintro e w4 ⟨rfl, rfl⟩
  go_wp2_with fail
  refine (push_odd w2.heap.size v1 _ _ w3 q0).mono ?_
  rintro e w4 ⟨rfl, rfl⟩
  go_wp2_with fail
  refine (lost_nil w3).mono ?_
  rintro e w4 ⟨rfl, rfl⟩
  go_wp2_with fail
  refine (waits_row w2.heap.size 0 0 none 0 false w3 q0).mono ?_
  rintro e w4 ⟨rfl, rfl⟩
  go_wp2_with fail
  refine (end_nil w3).mono ?_
  rintro e w4 ⟨rfl, rfl⟩
  go_wp2_with fail
  refine (end_row0 w2.heap.size 0 none 0 false w3 q0).mono ?_
  rintro e w4 ⟨rfl, rfl⟩
  have HOWN : (w3.alloc (.cells #[.int .u8 7] 5)).ownsRow w3.heap.size 5 1 (.slice (some ⟨w3.heap.size, 0, none⟩) 1 1) 1 ([7].map (Value.int .u8)) := ⟨rfl, .inr ⟨w3.heap.size, 1, #[.int .u8 7], rfl, Nat.le_refl _, heap_alloc_new w3 _, by simp, by decide, rfl, rfl⟩⟩
  have hb34 := (Below.refl _ w3).alloc (Nat.le_refl _) (.cells #[.int .u8 7] 5)
  have HR4 := hid (hr3.later hb34)
  have HFL := hid (frameL_len ex5 rfl)
  have HFW := hid (frameL_wf ex5 rfl)
  have HOWN' := hid HOWN
  have HB34 := hid hb34
  clear HOWN hb34 hr2 hr3 hs2 q0 hb3
  go_wp2_with (((with_reducible refine at_op (.call { callee := .builtin .append, args := #[.tmp 42, .tmp 43], argTypes := #[22, 22] }) ?_); refine wpList_append_reads rfl (.tmp 42) (.tmp 43) 22 rfl w3.heap.size 5 i0 (.int .u8 0) .u8 1 Tryd.underlying22 hi hz0 hz1 hz2 rfl _ 1 _ rfl HOWN'.out v1 (frameL ex5) rfl HR4.out ?_ ?_ ?_ ?_; (rw [HFL.out]; decide); (rw [HFL.out]; decide); (simp); intro v5 w5 hown5 hg5))
  have hb45 : Below w3.heap.size (w3.alloc (.cells #[.int .u8 7] 5)) w5 := (Below.refl _ _).grown hg5 (by simp) (fun k e => by cases e; exact Nat.le_refl _)
  have hb35 : Below w3.heap.size w3 w5 := HB34.out.trans hb45
  have hr5 : Reads .u8 w5 v5 (7 :: frameL ex5) := by
    have hown5' : w5.ownsRow w3.heap.size 5 1 v5 (1 + (frameL ex5).length) ((7 :: frameL ex5).map (Value.int .u8)) := hown5
    refine reads_of_owns hown5' ?_
    · intro x hx
      rcases List.mem_cons.1 hx with rfl | hx
      · rfl
      · exact HFW.out x hx
  have hs5 := (hs3.below (hb35.mono (by omega))).mono (show w2.heap.size ≤ w5.heap.size by have := hb35.size; omega)
  have hB5 := chain hB3 hb35
  have PP := hid (push_any g [] (7 :: frameL ex5) 0 v5 a0 a1 w w5 F0.out hB5 hge hs5 (fun _ _ => trivial) hr5 (by decide) (by rw [List.length_cons, HFL.out]; decide))
  rw [List.nil_append, ex5_look] at PP
  refine PP.out.mono ?_
  rintro e w6 ⟨u, rfl, tt, hs6, hrow⟩
  have hB6 : Below w.heap.size w w6 := hB5.trans (tt.below hB5.size hge)
  have HRR := rrow_of_rows hrow (by intro Z hZ; simp at hZ; subst hZ; rfl)
  obtain ⟨au, cu, rfl, hau, -⟩ := rrow_at HRR (by intro Z hZ; simp at hZ; subst hZ; rfl)
  obtain ⟨bu, ou, rfl⟩ := hau (by decide)
  have cc : w6.cell? ⟨bu, ou + 1, none⟩ = some (.int .i64 5) := rrow_cells HRR (i := 0) (Z := ex5) rfl 1 (.int .i64 5) rfl _ (by omega)
  have LO := hid (lost_any hs6)
  have WA := hid (waits_any hs6)
  clear PP hrow HRR hau hs6 tt hs5 hr5 hown5 hg5 hs3
  go_wp2_with fail
  refine LO.out.mono ?_
  rintro e w7 ⟨rfl, rfl⟩
  go_wp2_with fail
  refine WA.out.mono ?_
  rintro e w7 ⟨rfl, rfl⟩
  go_wp2
  go_ret
  exact ⟨rfl, hB6⟩
end Go.Proofs.YtecbfegohdllbaaDoor
end
section
/- Layer 46 (stream): what a law keeps beside a stream: a row of bytes and a row of reports of its own; appends onto them. -/
namespace Go.Proofs.YtecbfegohdllbaaDoor
open Go.RowKit
set_option linter.unusedVariables false
set_option linter.unusedSimpArgs false
theorem SI.ok {Ok Ok' : Nat → Prop} {N g : Nat} {Y : List Int} {k : Int} {W : World} (h : SI Ok N g Y k W) (ho : ∀ n, n < N → Ok n → Ok' n) : SI Ok' N g Y k W := by
  obtain ⟨a, c, h1, h2, h3, h4⟩ := h
  exact ⟨a, c, h1, h2, h3, fun b e => ⟨(h4 b e).1, (h4 b e).2.1, ho _ (h4 b e).1 (h4 b e).2.2⟩⟩
theorem SI.grown {Ok : Nat → Prop} {N g : Nat} {Y : List Int} {k : Int} {A B : World} {row : Option Nat} (h : SI Ok N g Y k A) (hg : A.grownBy B row) (hN : N ≤ A.heap.size) (hr : row ≠ some g) (ho : ∀ n, Ok n → row ≠ some n) : SI Ok N g Y k B := by
  obtain ⟨a, c, h1, h2, h3, h4⟩ := h
  refine ⟨a, c, (hg.block g (by omega) (by first | exact fun e => hr e | exact fun e => hr e.symm)).trans h1, ?_, h3, h4⟩
  obtain ⟨a', c', hv, r1, r2, r3, r4, r5⟩ := h2
  obtain ⟨rfl, -, rfl⟩ := Value.slice.inj hv
  refine ⟨_, _, rfl, r1, r2, r3, r4, fun b hb i hi => ?_⟩
  have hB := h4 b hb
  have hbl : (b.add i).block = b.block := by unfold Addr.add; split <;> rfl
  rw [World.cell?_of_block (hg.block _ (by rw [hbl]; omega) (by rw [hbl]; first | exact fun e => ho _ hB.2.2 e | exact fun e => ho _ hB.2.2 e.symm))]
  exact r5 b hb i hi
theorem own_ne {W : World} {b1 b2 s1 s2 n1 n2 : Nat} {e1 e2 : TypeId} {v1 v2 : Value} {x1 x2 : List Value} (h1 : W.ownsRow b1 e1 s1 v1 n1 x1) (h2 : W.ownsRow b2 e2 s2 v2 n2 x2) (hne : e1 ≠ e2) : v1.ownBlock = none ∨ v1.ownBlock ≠ v2.ownBlock := by
  rcases h1.2 with ⟨rfl, -⟩ | ⟨g, cap, cur, rfl, -, hg, -⟩
  · exact .inl rfl
  · refine .inr fun e => ?_
    exact row_not' h2 hg hne e.symm
theorem wpList_append_reads_at {P : Program} {w : World} {ops : Array Oper} {rest : List Oper} {o : Oper} {a : Act} {Q : Exit → Act → World → Prop} (hgd : o.guard = none) (s x : Operand) (t : TypeId)
    (ho : o.op = .call { callee := .builtin .append, args := #[s, x], argTypes := #[t, t] })
    (base : Nat) (e : TypeId) (i : TypeInfo) (z : Value) (k : IntKind) (bytes : Nat) (ht : P.underlying t = some (.slice e)) (hi : P.info? e = some i) (hz : i.zero = some z)
    (hsize : i.size = 1) (hby : i.bytes = bytes) (hzs : z.cells.size = 1)
    (v : Value) (n : Nat) (xs : List Value) (hs : a.eval s = v) (hown : w.ownsRow base e 1 v n xs) (u : Value) (l : List Int) (hx : a.eval x = u) (hr : Reads k w u l)
    (h63 : n + l.length ≤ maxLen) (hbytes : (n + l.length) * bytes ≤ 140737488355328) (hbase : base ≤ w.heap.size)
    (h : ∀ v' w', w'.ownsRow base e 1 v' (n + l.length) (xs ++ l.map (Value.int k)) → w.grownBy w' v.ownBlock → (v'.ownBlock = v.ownBlock ∨ v'.ownBlock = some w.heap.size) → wpList P ops Q rest (a.put o.dst v') w') : wpList P ops Q (o :: rest) a w := by
  obtain ⟨ad, c, rfl, h1, h2, h3, h4, h5⟩ := hr
  cases ad with
  | none =>
    obtain ⟨rfl, rfl⟩ := h4 rfl
    refine wpList_append_own_none hgd s x t ho base e i 1 ht hi v n xs hs hown hx ?_
    exact h v w (by simpa using hown) (grownBy_refl _ _) (.inl rfl)
  | some ad =>
    refine wpList_append_own_at _ hgd s x t ho base e i z 1 bytes ht hi hz hsize hby hzs (by decide) v n xs hs hown ad l.length c (l.map (Value.int k)) hx (by simp) ?_ ?_ h63 hbytes hbase (fun v' w' a1 a2 _ a3 => h v' w' a1 a2 a3)
    · intro j q hj
      have hjl : j < l.length := by
        rcases Nat.lt_or_ge j l.length with g | g
        · exact g
        · rw [List.getElem?_eq_none (by simpa using g)] at hj; cases hj
      rw [h5 ad rfl j hjl]
      simpa [hjl] using hj
    · intro q hq
      obtain ⟨_, _, rfl⟩ := List.mem_map.1 hq
      rfl
theorem repCells_app (l r : List (List Int)) : repCells (l ++ r) = repCells l ++ repCells r := by simp [repCells]
theorem wpList_append_rows {w : World} {ops : Array Oper} {rest : List Oper} {o : Oper} {a : Act} {Q : Exit → Act → World → Prop} (hgd : o.guard = none) (s x : Operand)
    (ho : o.op = .call { callee := .builtin .append, args := #[s, x], argTypes := #[60, 60] })
    (base base' : Nat) (v u : Value) (l r : List (List Int)) (hs : a.eval s = v) (hown : Rows' base w v l) (hx : a.eval x = u) (hu : Rows' base' w u r) (hr : ∀ Z ∈ r, Z.length = 11)
    (hlen : l.length + r.length ≤ 1000000) (hbase : base ≤ w.heap.size)
    (h : ∀ v' w', Rows' base w' v' (l ++ r) → w.grownBy w' v.ownBlock → (v'.ownBlock = v.ownBlock ∨ v'.ownBlock = some w.heap.size) → wpList Tryd.prog ops Q rest (a.put o.dst v') w') : wpList Tryd.prog ops Q (o :: rest) a w := by
  obtain ⟨i0, hi0, hz0, hz1, hz2⟩ := info_parts Tryd.infoRep
  rcases hu.2 with ⟨rfl, hn⟩ | ⟨g, cap, cur, rfl, -, hg, h1, h2, h3, h4⟩
  · have hr0 : r = [] := List.eq_nil_of_length_eq_zero hn
    subst hr0
    refine wpList_append_own_none hgd s x _ ho base 50 i0 11 Tryd.underlying60 hi0 v l.length (repCells l) hs hown hx ?_
    exact h v w (by simpa using hown) (grownBy_refl _ _) (.inl rfl)
  · refine wpList_append_own_at _ hgd s x _ ho base 50 i0 (.agg (rcells zeroR)) 11 64 Tryd.underlying60 hi0 hz0 hz1 hz2 rfl (by decide) v l.length (repCells l) hs hown ⟨g, 0, none⟩ r.length cap (repCells r) hx hu.1 ?_ ?_ (by simp [maxLen]; omega) (by omega) hbase ?_
    · intro j q hj
      rw [add_plain, Nat.zero_add]
      refine (cell_of_row w g j _ _ _ hg).trans ?_
      rw [← h4, List.getElem?_take] at hj
      split at hj
      · rw [← Array.getElem?_toList]; exact hj
      · cases hj
    · intro q hq
      unfold repCells at hq
      obtain ⟨Z, hZ, hq⟩ := List.mem_flatMap.1 hq
      exact Array.all_eq_true_iff_forall_mem.1 (rcells_one Z) q (by simpa using hq)
    · intro v' w' a1 a2 _ a3
      refine h v' w' ?_ a2 a3
      unfold Rows'
      rw [List.length_append, repCells_app]
      exact a1
/-- beside a stream: all bytes so far, all reports so far, each in a row of the law's own -/
def T4 (w : World) (M g : Nat) (al gt : Value) (Al : List Int) (rows : List (List Int)) (Y : List Int) (k : Int) (W : World) : Prop :=
  Below w.heap.size w W ∧ M ≤ W.heap.size ∧ W.ownsRow M 5 1 al Al.length (Al.map (Value.int .u8)) ∧ Rows' M W gt rows ∧
  SI (fun n => al.ownBlock ≠ some n ∧ gt.ownBlock ≠ some n) W.heap.size g Y k W ∧ (∀ x ∈ Al, (Lit.int .u8 x).wf = true) ∧ w.heap.size ≤ g ∧ g < M
section
variable {w A B : World} {M g : Nat} {al gt : Value} {Al : List Int} {rows : List (List Int)} {Y : List Int} {k : Int}
theorem T4.all {al' : Value} {Bs : List Int} (h : T4 w M g al gt Al rows Y k A) (ho : B.ownsRow M 5 1 al' (Al.length + Bs.length) (Al.map (Value.int .u8) ++ Bs.map (Value.int .u8))) (hg : A.grownBy B al.ownBlock)
    (hl : al'.ownBlock = al.ownBlock ∨ al'.ownBlock = some A.heap.size) (hw : ∀ x ∈ Bs, (Lit.int .u8 x).wf = true) : T4 w M g al' gt (Al ++ Bs) rows Y k B := by
  obtain ⟨h1, h2, h3, h4, h5, h6, h7, h8⟩ := h
  have hbl : ∀ j, al.ownBlock = some j → w.heap.size ≤ j := fun j e => by have := (h3.lt j e).1; omega
  refine ⟨h1.grown hg h1.size hbl, Nat.le_trans h2 hg.size, by rw [List.length_append, List.map_append]; exact ho, h4.kept hg (own_ne h4 h3 (by decide)), ?_, fun x hx => (List.mem_append.1 hx).elim (h6 x) (hw x), h7, h8⟩
  refine (((h5.grown hg (Nat.le_refl _) (fun e => by have := (h3.lt g e).1; omega) (fun n hn => hn.1)).ok ?_).mono hg.size)
  intro n hn ⟨o1, o2⟩
  refine ⟨?_, o2⟩
  rcases hl with e | e
  · rw [e]; exact o1
  · rw [e]; intro e2; have := Option.some.inj e2; omega
theorem T4.got {gt' : Value} {rows' : List (List Int)} (h : T4 w M g al gt Al rows Y k A) (ho : Rows' M B gt' rows') (hg : A.grownBy B gt.ownBlock)
    (hl : gt'.ownBlock = gt.ownBlock ∨ gt'.ownBlock = some A.heap.size) : T4 w M g al gt' Al rows' Y k B := by
  obtain ⟨h1, h2, h3, h4, h5, h6, h7, h8⟩ := h
  have hbl : ∀ j, gt.ownBlock = some j → w.heap.size ≤ j := fun j e => by have := (h4.lt j e).1; omega
  refine ⟨h1.grown hg h1.size hbl, Nat.le_trans h2 hg.size, h3.kept hg (own_ne h3 h4 (by decide)), ho, ?_, h6, h7, h8⟩
  refine (((h5.grown hg (Nat.le_refl _) (fun e => by have := (h4.lt g e).1; omega) (fun n hn => hn.2)).ok ?_).mono hg.size)
  intro n hn ⟨o1, o2⟩
  refine ⟨o1, ?_⟩
  rcases hl with e | e
  · rw [e]; exact o2
  · rw [e]; intro e2; have := Option.some.inj e2; omega
theorem T4.okn (h : T4 w M g al gt Al rows Y k A) : ∀ n, A.heap.size ≤ n → al.ownBlock ≠ some n ∧ gt.ownBlock ≠ some n := by
  obtain ⟨h1, h2, h3, h4, h5, h6, h7, h8⟩ := h
  intro n hn
  exact ⟨fun e => by have := (h3.lt n e).2; omega, fun e => by have := (h4.lt n e).2; omega⟩
theorem T4.turn {Y' : List Int} {k' : Int} (h : T4 w M g al gt Al rows Y k A) (ht : Turn g A B) (hs : SI (fun n => al.ownBlock ≠ some n ∧ gt.ownBlock ≠ some n) B.heap.size g Y' k' B) : T4 w M g al gt Al rows Y' k' B := by
  obtain ⟨h1, h2, h3, h4, h5, h6, h7, h8⟩ := h
  exact ⟨h1.trans (ht.below h1.size h7), Nat.le_trans h2 ht.size, h3.kept ht (.inr (fun e => by have := (h3.lt g e).1; omega)), h4.kept ht (.inr (fun e => by have := (h4.lt g e).1; omega)), hs, h6, h7, h8⟩
theorem T4.below (h : T4 w M g al gt Al rows Y k A) (hb : Below A.heap.size A B) : T4 w M g al gt Al rows Y k B :=  by
  obtain ⟨h1, h2, h3, h4, h5, h6, h7, h8⟩ := h
  exact ⟨chain h1 hb, Nat.le_trans h2 hb.size, ownsRow_below h3 hb, ownsRow_below h4 hb, (h5.below hb).mono hb.size, h6, h7, h8⟩
theorem T4.reads (h : T4 w M g al gt Al rows Y k A) : Reads .u8 A al Al := reads_of_owns h.2.2.1 h.2.2.2.2.2.1
end
end Go.Proofs.YtecbfegohdllbaaDoor
end
