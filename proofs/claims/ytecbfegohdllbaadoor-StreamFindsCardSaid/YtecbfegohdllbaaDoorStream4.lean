/- Layer 46 (stream): the reference's Look: a contract. -/
import Derived.Test.YtecbfegohdllbaaDoorStream3
namespace Go.Proofs.YtecbfegohdllbaaDoor
open Go.RowKit
set_option linter.unusedVariables false
set_option linter.unusedSimpArgs false
set_option maxRecDepth 100000 in
set_option maxHeartbeats 2000000 in
theorem rlook_any (v : Value) (Y : List Int) (w : World) (hr : Reads .u8 w v Y) (hl : Y.length ≤ 1000000) :
    Calls Tryd.prog 44 #[v] w fun e w' => ∃ u, e = .returned (.tuple #[u, .int .i64 (look Y).2.1, .int .i64 (look Y).2.2.length]) ∧ Below w.heap.size w w' ∧ Rows' w.heap.size w' u (look Y).1 := by
  have hwf := Reads.wf hr
  have HR := hid (fun W (hW : Below w.heap.size w W) => hr.later hW)
  obtain ⟨i0, hi0, hz0, hz1, hz2⟩ := info_parts Tryd.infoRep
  obtain ⟨a, c, rfl, h1, h2, -, h4, -⟩ := id hr
  have HP := hid (fun (h : 0 < Y.length) => hr.plain h)
  have LK0 : LK Y 0 [] Y 0 := ⟨by simp, rfl, rfl, Int.le_refl _, by omega, fun x hx => bd_u8 (hwf x hx)⟩
  have HCL := hid (look_count Y)
  clear hr hwf h4
  obtain ⟨n, hn⟩ : ∃ n, n = Y.length := ⟨_, rfl⟩
  have HN := hid hn
  rw [← hn] at hl h1 ⊢
  clear hn
  go_enter Tryd.func44, Tryd.ntmps44
  go_wp2_with fail
  go_loopw [5, 6, 7] (fun o l t wr => ∃ (pre : List (List Int)) (lost : Int) (k : Nat), k ≤ n ∧ t = .int .i64 k ∧ l = .int .i64 lost ∧ Rows' w.heap.size wr o pre ∧ Below w.heap.size w wr ∧ LK Y 0 pre (Y.drop k) lost) (fun _ _ t _ => n - (intOf t).toNat)
  case atStart => exact ⟨[], 0, 0, by omega, rfl, rfl, World.ownsRow_nil _ _ _ _, Below.refl _ _, by simpa using LK0⟩
  case round =>
    obtain ⟨pre, lost, k, hk, rfl, rfl, hown, hbw, hlk⟩ := hrel
    have hkl : (Y.drop k).length = n - k := by rw [List.length_drop]; have := HN.out; omega
    by_cases hlt : k + 32 ≤ n
    · have hlt' : (k : Int) + 32 ≤ n := by omega
      have hk0 : (k : Int) ≤ 1000000 := by omega
      have hc1 : ¬ c = k := by omega
      obtain ⟨b, off, cc, hv, -, -, -, -⟩ := HP.out (by have := HN.out; omega)
      obtain ⟨rfl, -, rfl⟩ := Value.slice.inj hv
      have hrk := (HR.out wr hbw)
      have hrd : Reads .u8 wr (.slice (some ⟨b, off + k, none⟩) 32 (c - k)) ((Y.drop k).take 32) := (reads_drop hrk (by have := HN.out; omega)).take 32 (by rw [hkl]; omega)
      have hYb : ∀ x ∈ (Y.drop k).take 32, 0 ≤ x ∧ x ≤ 255 := fun x hx => hlk.2.2.2.2.2 x (List.mem_of_mem_take hx)
      have GT := hid (rget_any _ _ wr hrd)
      have HG := hid (got_wf _ hYb).1
      have hshort : ¬ (Y.drop k).length < 32 := by rw [hkl]; omega
      have MISS := hid (fun he => hlk.miss hshort he)
      have HIT := hid (fun he => hlk.hit hshort he)
      have GR := hid (fun (he : getE ((Y.drop k).take 32) = 0) => (show gotR ((Y.drop k).take 32) = getR ((Y.drop k).take 32) by rw [gotR, if_pos he]))
      have HPL := hid (show pre.length ≤ 100000 by
        have h1 := congrArg List.length hlk.1
        have h2 := HCL.out.1
        have h3 := HN.out
        rw [List.length_append] at h1; omega)
      obtain ⟨q0, q1⟩ : 0 ≤ lost ∧ lost ≤ 1000000 := ⟨hlk.2.2.2.1, by have := hlk.2.2.2.2.1; omega⟩
      have DD1 : (Y.drop k).drop 1 = Y.drop (k + 1) := by rw [List.drop_drop]
      have DD2 : (Y.drop k).drop 32 = Y.drop (k + 32) := by rw [List.drop_drop]
      rw [DD1] at MISS
      rw [DD2] at HIT
      obtain ⟨ua, uc, rfl⟩ := own_slice hown
      have OWN0 := hid hown
      clear hlk hrk hrd hYb hshort DD1 DD2 hv hown
      generalize getE ((Y.drop k).take 32) = er at *
      generalize gotR ((Y.drop k).take 32) = G at *
      go_wp2_with fail
      refine GT.out.mono ?_
      rintro e w2 ⟨rfl, hb2⟩
      clear GT
      by_cases he : er = 0
      · have LKH := hid (HIT.out he)
        have hGG := GR.out he
        rw [← hGG] at LKH
        subst he
        clear HIT MISS GR hGG
        go_wp2_with (first | ((with_reducible refine at_op (.alloc 50) ?_); refine wpR_alloc rfl rfl ?_; intro g5 w5 hg5 hR5 hb5; have hl5 : w2.heap.size ≤ g5 := Nat.le_of_eq hg5.symm; clear hg5) | ((with_reducible refine at_op (.store 50 (.tmp 8) (.tmp 22)) ?_); refine wpR_put rfl (.tmp 8) (.tmp 22) rfl g5 w2.heap.size G zeroR HG.out rfl rfl rfl hR5 hl5 ?_; intro w6 hR6 hb6; (have hb26 := hb5.trans (hb6.mono (Nat.le_refl _)); have hB6 := hbw.trans (hb2.trans (hb26.mono hb2.size) |>.mono hbw.size); have OWN := hid (ownsRow_below OWN0.out (hb2.trans (hb26.mono hb2.size))); have hsz6 := hid hB6.size)) | ((with_reducible refine at_op (.load 50 (.tmp 8)) ?_); refine wpR_get rfl (.tmp 8) rfl g5 rfl G HG.out hR6 ?_) | ((with_reducible refine at_op (.buildSlice 60 1 #[(0, .tmp 27)]) ?_); refine wpList_plain rfl (fun K hK => ?_); refine wp_slice1_rep (.tmp 27) rfl G HG.out rfl ?_; intro g8 w8 hg8 hR8 hb8; clear hg8; refine hK _ _ ?_) | ((with_reducible refine at_op (.call { callee := .builtin .append, args := #[.tmp 26, .tmp 28], argTypes := #[60, 60] }) ?_); refine wpList_plain rfl (fun K hK => ?_); refine wp_append_own w8 (.tmp 26) (.tmp 28) 60 rfl w.heap.size 50 i0 (.agg (rcells zeroR)) 11 64 Tryd.underlying60 hi0 hz0 hz1 hz2 rfl (by decide) _ pre.length (repCells pre) rfl (ownsRow_below OWN.out hb8) ⟨g8, 0, none⟩ 1 1 (rcells G).toList rfl (rcells_list_len G HG.out) ?_ ?_ ?_ ?_ ?_ ?_; (intro j t hj; rw [add_plain, Nat.zero_add]; exact (cell_of_row w8 g8 j _ _ _ hR8).trans (by rw [← hj, Array.getElem?_toList])); (intro t ht; exact Array.all_eq_true_iff_forall_mem.1 (rcells_one G) t (by simpa using ht)); (have := HPL.out; simp [maxLen]; omega); (have := HPL.out; omega); (have := hb8.size; have := hsz6.out; omega); intro v' w9 hown9 hg9 _; obtain ⟨va9, vc9, rfl⟩ := own_slice hown9; refine hK _ _ ?_))
        have hB9 : Below w.heap.size w w9 := (hB6.trans (hb8.mono hB6.size)).grown hg9 (Nat.le_trans hB6.size hb8.size) (fun k e => (ownsRow_below OWN.out hb8 |>.lt k e).1)
        go_roundw
        case rel =>
          refine ⟨pre ++ [G], lost, k + 32, by omega, by go_num, rfl, ?_, hB9, LKH.out⟩
          unfold Rows'
          rw [List.length_append, repCells_snoc]
          exact hown9
        case measure => simp [intOf]; omega
      · have LKM := hid (MISS.out he)
        have hne : (er == 0) = false := by simpa using he
        clear HIT MISS GR he
        go_wp2_with (first | ((with_reducible refine at_op (.alloc 50) ?_); refine wpR_alloc rfl rfl ?_; intro g5 w5 hg5 hR5 hb5; have hl5 : w2.heap.size ≤ g5 := Nat.le_of_eq hg5.symm; clear hg5) | ((with_reducible refine at_op (.store 50 (.tmp 8) (.tmp 22)) ?_); refine wpR_put rfl (.tmp 8) (.tmp 22) rfl g5 w2.heap.size G zeroR HG.out rfl rfl rfl hR5 hl5 ?_; intro w6 hR6 hb6))
        have hb26 := hb5.trans (hb6.mono (Nat.le_refl _))
        have hB6 := hbw.trans ((hb2.trans (hb26.mono hb2.size)).mono hbw.size)
        have OWN := ownsRow_below OWN0.out (hb2.trans (hb26.mono hb2.size))
        go_roundw
        case rel => exact ⟨pre, lost + 1, k + 1, by omega, by go_num, by go_num, OWN, hB6, LKM.out⟩
        case measure => simp [intOf]; omega
    · have hlt' : ¬ (k : Int) + 32 ≤ n := by omega
      have hkn : (k : Int) ≤ n := by omega
      have hn9 : (n : Int) ≤ 1000000 := by omega
      obtain ⟨d1, d2, d3⟩ := hlk.done (by rw [hkl]; omega)
      have D3 := hid (show ((n : Int) - k) = (look Y).2.2.length by rw [d2, hkl]; omega)
      have D2 := hid (show lost = (look Y).2.1 by omega)
      have D1 := hid d1
      obtain ⟨ua, uc, rfl⟩ := own_slice hown
      clear d1 d2 d3 hlk hkl
      go_wp2
      go_ret3
      refine ⟨_, ?_, hbw, by rw [← D1.out]; exact hown⟩
      rw [D3.out, D2.out]
      rfl
end Go.Proofs.YtecbfegohdllbaaDoor
