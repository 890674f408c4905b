/- The walk of StreamCounts: all bytes are of frames, lost, or wait. -/
import Derived.Test.YtecbfegohdllbaaDoorStreamAwake
import Derived.Test.YtecbfegohdllbaaDoorMats
namespace Go.Proofs.YtecbfegohdllbaaDoor
open Go.RowKit
set_option linter.unusedVariables false
set_option linter.unusedSimpArgs false
set_option maxRecDepth 100000 in
set_option maxHeartbeats 2000000 in
theorem StreamCounts_walk (v : Value) (ls : List (List Int)) (w : World) (hM : Mats w v ls) (h4 : Four w) (a0 a1 : Addr) (hE : ErrsAt w a0 a1) : Calls Tryd.prog 15 #[v] w fun e w' => e = .returned (.bool true) ∧ Below w.heap.size w w' := by
  have F0 := hid (show FC a0 a1 w from ⟨h4, hE⟩)
  have HM := hid (fun W (hW : Below w.heap.size w W) => hM.later hW)
  obtain ⟨a, c, rfl, a1', hc⟩ := mats_at hM
  obtain ⟨N, hN⟩ : ∃ N, N = ls.length := ⟨_, rfl⟩
  have HN := hid hN
  rw [← hN] at a1' hc HM ⊢
  clear hM h4 hE hN
  go_enter Tryd.func15, Tryd.ntmps15
  go_wp2_with fail
  refine (new_any (Ok := fun _ => True) w).mono ?_
  rintro e w1 ⟨rfl, hs1, hb1⟩
  by_cases h60 : N ≤ 60
  · have h60' : (N : Int) ≤ 60 := by omega
    obtain ⟨g, hg⟩ : ∃ g, g = w.heap.size := ⟨_, rfl⟩
    rw [← hg] at hs1 ⊢
    have HG := hid hg
    clear hg
    go_wp2_with fail
    go_loopw [4, 5, 6] (fun n t i wr => ∃ (kk told all : Nat) (Y : List Int) (k : Int), kk ≤ N ∧ n = .int .i64 all ∧ t = .int .i64 told ∧ i = .int .i64 kk ∧ Below w.heap.size w wr ∧ SI (fun _ => True) wr.heap.size g Y k wr ∧ 0 ≤ k ∧ 32 * (told : Int) + k + Y.length = all ∧ Y.length < 32 ∧ all ≤ 300 * kk) (fun _ _ i _ => N - (intOf i).toNat)
    case atStart => exact ⟨0, 0, 0, [], 0, by omega, rfl, rfl, rfl, hb1, hs1, by omega, by simp, by simp, by omega⟩
    case round =>
      obtain ⟨kk, told, all, Y, k, hk, rfl, rfl, rfl, hbw, hs, hk0, hsum, hY, hall⟩ := hrel
      by_cases hlt : kk < N
      · have hlt' : (kk : Int) < N := by omega
        obtain ⟨b, off, rfl⟩ := a1' (by omega)
        have l1 : kk < ls.length := by have := HN.out; omega
        have z1 : ls[kk]? = some ls[kk] := by simp [l1]
        generalize ls[kk] = B at *
        obtain ⟨ba, bc, hcell, hrB⟩ := mats_cell (HM.out wr hbw) z1
        by_cases hB : B.length ≤ 300
        · have PP := hid (push_any g Y B k _ a0 a1 w wr F0.out hbw (by have := HG.out; omega) hs (fun _ _ => trivial) hrB hk0 (by omega))
          have LC := hid (look_count (Y ++ B))
          have HY := hid hY
          have HSUM := hid hsum
          have HALL := hid hall
          have HK0 := hid hk0
          have HGL := hid (show w.heap.size ≤ g from by have := HG.out; omega)
          have HB := hid hB
          have NN : (B.length : Int) ≤ 300 := by omega
          have q1 : (all : Int) ≤ 18000 := by omega
          have q2 : (told : Int) ≤ 18000 := by omega
          clear hs hrB hY hsum hall hk0 hB z1
          generalize look (Y ++ B) = K at *
          obtain ⟨K1, K2, K3⟩ := K
          have LC1 := LC.out
          have hAB : (Y ++ B).length = Y.length + B.length := List.length_append
          try dsimp only at LC1
          go_wp2_with fail
          refine PP.out.mono ?_
          rintro e w2 ⟨u, rfl, tt, hs2, hrow⟩
          try dsimp only at hs2 hrow
          obtain ⟨ua, uc, rfl⟩ := own_slice hrow
          have hB2 := hbw.trans (tt.below hbw.size (by have := HG.out; omega))
          have LO := hid (lost_any hs2)
          have WA := hid (waits_any hs2)
          have hs3 := hid hs2
          have y0 := HY.out
          have y1 := HSUM.out
          have y2 := HALL.out
          have y3 := HK0.out
          have r1 : (K1.length : Int) ≤ 18000 := by omega
          have e1 : 32 * ((told : Int) + K1.length) + (k + K2) + K3.length = all + B.length := by omega
          have e3 : (K3.length : Int) < 32 := by omega
          have e4 : 0 ≤ k + (K2 : Int) ∧ k + (K2 : Int) ≤ 18400 := by omega
          have HREL := hid (show 0 ≤ k + (K2 : Int) ∧ 32 * ((told + K1.length : Nat) : Int) + (k + K2) + K3.length = (all + B.length : Nat) ∧ K3.length < 32 ∧ all + B.length ≤ 300 * (kk + 1) from ⟨e4.1, by omega, by omega, by have := HB.out; omega⟩)
          have c1 : (told : Int) + K1.length ≤ 600 := by omega
          obtain ⟨e41, e42⟩ := e4
          clear y0 y1 y2 y3 LC1 hs2 hrow hAB LC PP
          go_wp2_with fail
          refine LO.out.mono ?_
          rintro e w7 ⟨rfl, rfl⟩
          go_wp2_with fail
          refine WA.out.mono ?_
          rintro e w7 ⟨rfl, rfl⟩
          go_wp2_with fail
          refine WA.out.mono ?_
          rintro e w7 ⟨rfl, rfl⟩
          go_wp2
          go_roundw
          case rel => exact ⟨kk + 1, told + K1.length, all + B.length, K3, k + K2, by omega, by go_num, by go_num, by go_num, hB2, hs3.out, HREL.out.1, HREL.out.2.1, HREL.out.2.2.1, HREL.out.2.2.2⟩
          case measure => simp [intOf]; omega
        · have hB' : ¬ (B.length : Int) ≤ 300 := by omega
          have AW := hid (awake46 a0 a1 wr (F0.out.later hbw))
          clear hs hrB hsum hall z1
          generalize B.length = nb at *
          go_wp2_with fail
          refine AW.out.mono ?_
          rintro e w3 ⟨rfl, hb3⟩
          go_wp2
          go_ret
          exact ⟨rfl, chain hbw hb3⟩
      · have hlt' : ¬ (kk : Int) < N := by omega
        have AW := hid (awake46 a0 a1 wr (F0.out.later hbw))
        clear hs hsum hall
        go_wp2_with fail
        refine AW.out.mono ?_
        rintro e w3 ⟨rfl, hb3⟩
        go_wp2
        go_ret
        exact ⟨rfl, chain hbw hb3⟩
  · have h60' : ¬ (N : Int) ≤ 60 := by omega
    have AW := hid (awake46 a0 a1 w1 (F0.out.later hb1))
    clear hs1
    go_wp2_with fail
    refine AW.out.mono ?_
    rintro e w3 ⟨rfl, hb3⟩
    go_wp2
    go_ret
    exact ⟨rfl, chain hb1 hb3⟩
end Go.Proofs.YtecbfegohdllbaaDoor
