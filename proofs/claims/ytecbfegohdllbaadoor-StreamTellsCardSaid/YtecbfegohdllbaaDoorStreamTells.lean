/- The walk of StreamTells: what any bytes tell, however they are cut. -/
import Derived.Test.YtecbfegohdllbaaDoorStreamRows
import Derived.Test.YtecbfegohdllbaaDoorMats
namespace Go.Proofs.YtecbfegohdllbaaDoor
open Go.RowKit
set_option linter.unusedVariables false
set_option linter.unusedSimpArgs false
set_option maxRecDepth 100000 in
set_option maxHeartbeats 2000000 in
theorem StreamTells_walk (v : Value) (ls : List (List Int)) (w : World) (hM : Mats w v ls) (h4 : Four w) (a0 a1 : Addr) (hE : ErrsAt w a0 a1) : Calls Tryd.prog 14 #[v] w fun e w' => e = .returned (.bool true) ∧ Below w.heap.size w w' := by
  obtain ⟨i0, hi, hz0, hz1, hz2⟩ := info_parts Tryd.infoU8
  have F0 := hid (show FC a0 a1 w from ⟨h4, hE⟩)
  have HM := hid (fun W (hW : Below w.heap.size w W) => hM.later hW)
  obtain ⟨a, c, rfl, a1', hc⟩ := mats_at hM
  obtain ⟨N, hN⟩ : ∃ N, N = ls.length := ⟨_, rfl⟩
  have HN := hid hN
  rw [← hN] at a1' hc HM ⊢
  clear hM h4 hE hN
  go_enter Tryd.func14, Tryd.ntmps14
  go_wp2_with fail
  refine (new_any (Ok := fun n => Value.ownBlock (.slice none 0 0) ≠ some n ∧ Value.ownBlock (.slice none 0 0) ≠ some n) w).mono ?_
  rintro e w1 ⟨rfl, hs1, hb1⟩
  by_cases h60 : N ≤ 60
  · have h60' : (N : Int) ≤ 60 := by omega
    obtain ⟨g, hg⟩ : ∃ g, g = w.heap.size := ⟨_, rfl⟩
    rw [← hg] at hs1 ⊢
    have TS0 := hid (show T4 w w1.heap.size g (.slice none 0 0) (.slice none 0 0) [] (look []).1 (look []).2.2 (look []).2.1 w1 from by
      rw [look_short (by decide)]
      exact ⟨hb1, Nat.le_refl _, World.ownsRow_nil _ _ _ _, World.ownsRow_nil _ _ _ _, hs1, (fun x hx => by cases hx), by omega, hs1.choose_spec.choose_spec.2.2.1⟩)
    clear hg hs1 hb1
    generalize w1.heap.size = M at *
    go_wp2_with fail
    go_loopw [4, 5, 6] (fun al gt i wr => ∃ (kk : Nat) (Al : List Int), kk ≤ N ∧ i = .int .i64 kk ∧ Al.length ≤ 300 * kk ∧ T4 w M g al gt Al (look Al).1 (look Al).2.2 (look Al).2.1 wr) (fun _ _ i _ => N - (intOf i).toNat)
    case atStart => exact ⟨0, [], by omega, rfl, by simp, TS0.out⟩
    case round =>
      obtain ⟨kk, Al, hk, rfl, hal, ht0⟩ := hrel
      by_cases hlt : kk < N
      · have hlt' : (kk : Int) < N := by omega
        obtain ⟨b, off, rfl⟩ := a1' (by omega)
        have l1 : kk < ls.length := by have := HN.out; omega
        have z1 : ls[kk]? = some ls[kk] := by simp [l1]
        generalize ls[kk] = B at *
        obtain ⟨ba, bc, hcell, hrB⟩ := mats_cell (HM.out wr ht0.1) z1
        have MC := hid (fun W (hW : Below w.heap.size w W) => mats_cell (HM.out W hW) z1)
        by_cases hB : B.length ≤ 300
        · have NN : (B.length : Int) ≤ 300 := by omega
          have HAL := hid (show Al.length ≤ 18000 by omega)
          have HAL2 := hid (show Al.length + B.length ≤ 300 * (kk + 1) by omega)
          have HB := hid hB
          have HRB := hid hrB
          have HT0 := hid ht0
          have HCA := hid (look_count Al)
          have HCB := hid (look_count ((look Al).2.2 ++ B))
          clear hrB ht0 hal hB z1 l1
          go_wp2_with (((with_reducible refine at_op (.call { callee := .builtin .append, args := #[.tmp 39, .tmp 43], argTypes := #[22, 22] }) ?_); refine wpList_append_reads_at rfl (.tmp 39) (.tmp 43) 22 rfl M 5 i0 (.int .u8 0) .u8 1 Tryd.underlying22 hi hz0 hz1 hz2 rfl _ Al.length _ rfl HT0.out.2.2.1 _ B rfl HRB.out ?_ ?_ HT0.out.2.1 ?_; (have := HAL.out; have := HB.out; simp [maxLen]; omega); (have := HAL.out; have := HB.out; omega); intro v5 w5 hown5 hg5 hl5; (have T5 := hid (HT0.out.all hown5 hg5 hl5 HRB.out.wf)); (obtain ⟨va, vc, hcell5, hr5⟩ := MC.out w5 T5.out.1)))
          clear hown5 hg5 hl5 HRB hcell
          have PP := hid (push_any g _ B _ _ a0 a1 w w5 F0.out T5.out.1 T5.out.2.2.2.2.2.2.1 T5.out.2.2.2.2.1 T5.out.okn hr5 (by omega) (by have h1 := HCA.out; have := HAL.out; have := HB.out; omega))
          have HR5 := hid hr5
          have LA := look_app B Al
          have HLW := hid (look_wf (Al ++ B) (fun x hx => bd_u8 (T5.out.2.2.2.2.2.1 x hx)))
          have HCC := hid (look_count (Al ++ B))
          have hAB : (Al ++ B).length = Al.length + B.length := List.length_append
          rw [hAB] at HCC
          have HLAB := hid hAB
          clear hr5 hAB
          go_wp2_with fail
          refine PP.out.mono ?_
          rintro e w6 ⟨u, rfl, tt, hs6, hrow⟩
          have T6 := hid (T5.out.turn tt hs6)
          have HRW := hid hrow
          have hR6 : ∀ Z ∈ (look ((look Al).2.2 ++ B)).1, Z.length = 11 := fun Z hZ => (HLW.out Z (by rw [LA]; exact List.mem_append_right _ hZ)).1.1
          have HR6 := hid hR6
          obtain ⟨ua, uc, rfl⟩ := own_slice hrow
          clear tt hs6 hrow hR6 PP
          go_wp2_with (((with_reducible refine at_op (.call { callee := .builtin .append, args := #[.tmp 45, .tmp 51], argTypes := #[60, 60] }) ?_); refine wpList_append_rows rfl (.tmp 45) (.tmp 51) rfl M w5.heap.size _ _ _ _ rfl T6.out.2.2.2.1 rfl HRW.out HR6.out ?_ T6.out.2.1 ?_; (have := HAL.out; have := HB.out; have := HCA.out; have h2 := HCB.out; rw [List.length_append] at h2; omega); intro v7 w7 hown7 hg7 hl7))
          have T7 := T6.out.got hown7 hg7 hl7
          have T7' : T4 w M g v5 v7 (Al ++ B) (look (Al ++ B)).1 (look (Al ++ B)).2.2 (look (Al ++ B)).2.1 w7 := by
            have e1 : ((look (Al ++ B)).2.1 : Int) = (look Al).2.1 + (look ((look Al).2.2 ++ B)).2.1 := by rw [LA]; push_cast; rfl
            rw [e1, LA]
            exact T7
          have HT7 := hid T7'
          have HT5 := hid T5.out
          clear T7 T7' hown7 hg7 hl7 HRW HR6 T6 T5 HCB LA hcell5 HR5
          generalize Al ++ B = C at *
          have hrC := HT7.out.reads
          have LO7 := hid (rlook_any _ C w7 hrC (by have := HLAB.out; have := HAL.out; have := HB.out; omega))
          clear hrC
          go_wp2_with fail
          refine LO7.out.mono ?_
          rintro e w8 ⟨u8, rfl, hb8, hrow8⟩
          have HT8 := hid (HT7.out.below hb8)
          have hZ11 : ∀ Z ∈ (look C).1, Z.length = 11 := fun Z hZ => (HLW.out Z hZ).1.1
          have SM := hid (show Calls Tryd.prog 45 #[v7, u8] w8 fun e w' => e = .returned (.bool true) ∧ Below w8.heap.size w8 w' from (rsame_any v7 u8 _ _ w8 (rrow_of_rows HT8.out.2.2.2.1 hZ11) (rrow_of_rows hrow8 hZ11) hZ11 hZ11 rfl (by have := HCC.out; have := HAL.out; have := HB.out; omega)).mono (by rintro e w' ⟨rfl, h⟩; exact ⟨by simp, h⟩))
          clear hrow8 hb8 hZ11
          obtain ⟨n1, hn1⟩ : ∃ n1 : Int, n1 = ((look C).2.1 : Int) := ⟨_, rfl⟩
          obtain ⟨n2, hn2⟩ : ∃ n2 : Int, n2 = ((look C).2.2.length : Int) := ⟨_, rfl⟩
          have HN1 := hid hn1
          have HN2 := hid hn2
          rw [← hn1, ← hn2]
          clear hn1 hn2
          go_wp2_with fail
          refine SM.out.mono ?_
          rintro e w9 ⟨rfl, hb9⟩
          have HT9 := hid (HT8.out.below hb9)
          have LO := hid (lost_any HT9.out.2.2.2.2.1)
          have WA := hid (waits_any HT9.out.2.2.2.2.1)
          rw [← HN1.out] at LO
          rw [← HN2.out] at WA
          clear hb9
          go_wp2_with fail
          refine LO.out.mono ?_
          rintro e w10 ⟨rfl, rfl⟩
          go_wp2_with fail
          refine WA.out.mono ?_
          rintro e w10 ⟨rfl, rfl⟩
          go_wp2
          go_roundw
          case rel => exact ⟨kk + 1, C, by omega, by go_num, by rw [HLAB.out]; exact HAL2.out, HT9.out⟩
          case measure => simp [intOf]; omega
        · have hB' : ¬ (B.length : Int) ≤ 300 := by omega
          have HT := hid ht0.1
          have AW := hid (awake46 a0 a1 wr (F0.out.later ht0.1))
          clear hrB hal ht0 z1
          generalize B.length = nb at *
          go_wp2_with fail
          refine AW.out.mono ?_
          rintro e w3 ⟨rfl, hb3⟩
          go_wp2
          go_ret
          exact ⟨rfl, chain HT.out hb3⟩
      · have hlt' : ¬ (kk : Int) < N := by omega
        have HAL := hid (show Al.length ≤ 18000 by omega)
        have HT0 := hid ht0
        have HCA := hid (look_count Al)
        have hrC := ht0.reads
        have LO7 := hid (rlook_any _ Al wr hrC (by omega))
        clear hrC ht0 hal
        go_wp2_with fail
        refine LO7.out.mono ?_
        rintro e w8 ⟨u8, rfl, hb8, -⟩
        have HT8 := hid (HT0.out.below hb8)
        have EN := hid (end_any HT8.out.2.2.2.2.1 (by have := HCA.out; have := HAL.out; omega))
        clear hb8
        obtain ⟨n1, hn1⟩ : ∃ n1 : Int, n1 = ((look Al).2.1 : Int) := ⟨_, rfl⟩
        obtain ⟨n2, hn2⟩ : ∃ n2 : Int, n2 = ((look Al).2.2.length : Int) := ⟨_, rfl⟩
        obtain ⟨m1, m2, m3, m4⟩ : 0 ≤ n1 ∧ n1 ≤ 18000 ∧ 0 ≤ n2 ∧ n2 ≤ 18000 := by have := HCA.out; have := HAL.out; omega
        rw [← hn1, ← hn2] at EN
        rw [← hn1, ← hn2]
        clear hn1 hn2
        go_wp2_with fail
        refine EN.out.mono ?_
        rintro e w9 ⟨rfl, hs9, tt9⟩
        have HB9 := hid (HT8.out.1.trans (tt9.below HT8.out.1.size HT8.out.2.2.2.2.2.2.1))
        have LO := hid (lost_any hs9)
        have WA := hid (waits_any hs9)
        have EN2 := hid (end_any hs9 (by simp; omega))
        clear hs9 tt9 EN
        go_wp2_with fail
        refine LO.out.mono ?_
        rintro e w10 ⟨rfl, rfl⟩
        go_wp2_with fail
        refine WA.out.mono ?_
        rintro e w10 ⟨rfl, rfl⟩
        go_wp2_with fail
        refine EN2.out.mono ?_
        rintro e w11 ⟨rfl, -, tt11⟩
        have HB11 := hid (HB9.out.trans (tt11.below HB9.out.size HT8.out.2.2.2.2.2.2.1))
        have AW := hid (awake46 a0 a1 w11 (F0.out.later HB11.out))
        clear tt11
        go_wp2_with fail
        refine AW.out.mono ?_
        rintro e w12 ⟨rfl, hb12⟩
        go_wp2
        go_ret
        exact ⟨rfl, chain HB11.out hb12⟩
  · have h60' : ¬ (N : Int) ≤ 60 := by omega
    have AW := hid (awake46 a0 a1 w1 (F0.out.later hb1))
    clear hs1
    go_wp2_with fail
    refine AW.out.mono ?_
    rintro e w3 ⟨rfl, hb3⟩
    go_wp2
    go_ret
    exact ⟨rfl, chain hb1 hb3⟩
end Go.Proofs.YtecbfegohdllbaaDoor
