/- The walk of StreamFinds: frames one behind the other are all told. -/
import Derived.Test.YtecbfegohdllbaaDoorStreamReps
namespace Go.Proofs.YtecbfegohdllbaaDoor
open Go.RowKit
set_option linter.unusedVariables false
set_option linter.unusedSimpArgs false
set_option maxRecDepth 100000 in
set_option maxHeartbeats 4000000 in
theorem StreamFinds_walk (v : Value) (l : List (List Int)) (cut : Int) (w : World) (hM : RRow w v l ∧ ∀ Z ∈ l, RepWf Z) (hcut : (Lit.int .i64 cut).wf = true) (h4 : Four w) (a0 a1 : Addr) (hE : ErrsAt w a0 a1) : Calls Tryd.prog 16 #[v, .int .i64 cut] w fun e w' => e = .returned (.bool true) ∧ Below w.heap.size w w' := by
  obtain ⟨i0, hi, hz0, hz1, hz2⟩ := info_parts Tryd.infoU8
  have F0 := hid (show FC a0 a1 w from ⟨h4, hE⟩)
  have HM := hid (fun W (hW : Below w.heap.size w W) => rrow_later hM.1 hW)
  have HWF := hid hM.2
  obtain ⟨a, c, rfl, a1', hc⟩ := rrow_at hM.1 (fun Z hZ => (hM.2 Z hZ).1)
  obtain ⟨N, hN⟩ : ∃ N, N = l.length := ⟨_, rfl⟩
  have HN := hid hN
  rw [← hN] at a1' hc HM ⊢
  have HSZ0 := hid (Nat.le_refl w.heap.size)
  clear hM h4 hE hN hcut
  go_enter Tryd.func16, Tryd.ntmps16
  by_cases h30 : N ≤ 30
  · have h30' : (N : Int) ≤ 30 := by omega
    have HNN := hid h30
    go_wp2_with fail
    go_loopw [5, 6] (fun al i wr => ∃ kk : Nat, kk ≤ N ∧ i = .int .i64 kk ∧ Below w.heap.size w wr ∧ wr.ownsRow w.heap.size 5 1 al (32 * kk) (((l.take kk).flatMap frameL).map (Value.int .u8)) ∧ (∀ Z ∈ l.take kk, RightL Z) ∧ (kk = 0 → al = .slice none 0 0)) (fun _ i _ => N - (intOf i).toNat)
    case atStart => exact ⟨0, by omega, rfl, Below.refl _ _, World.ownsRow_nil _ _ _ _, (fun Z hZ => by cases hZ), fun _ => rfl⟩
    case round =>
      obtain ⟨kk, hk, rfl, hbw, hown, hright, hzero⟩ := hrel
      by_cases hlt : kk < N
      · have hlt' : (kk : Int) < N := by omega
        obtain ⟨b, off, rfl⟩ := a1' (by omega)
        have l1 : kk < l.length := by have := HN.out; omega
        have z1 : l[kk]? = some l[kk] := by simp [l1]
        have HTK := hid (show l.take (kk + 1) = l.take kk ++ [l[kk]] from List.take_succ_eq_append_getElem l1)
        have HZW := hid (HWF.out _ (List.getElem_mem l1))
        generalize l[kk] = Z at *
        have HZL := hid HZW.out.1
        have CA := hid (fun W (hW : Below w.heap.size w W) => rrow_cells (HM.out W hW) z1)
        have HO := hid hown
        have HRT := hid hright
        clear hown hright hzero z1 l1
        go_wp2_with ((with_reducible refine at_op (.load 50 (.tmp 25)) ?_); refine wpR_load_part rfl (.tmp 25) rfl _ rfl Z HZL.out ?_ ?_; (intro j x hj; rw [add_plain]; exact CA.out wr hbw j x hj _ (by omega)))
        refine (rfput_any Z HZW.out wr).mono ?_
        rintro e w2 ⟨v2, rfl, hb2, hown2⟩
        have hB2 := chain hbw hb2
        by_cases hR : RightL Z
        · rw [putE_right hR]
          rw [putL_right hR] at hown2
          have HR2 := hid (reads_of_owns hown2 (frameL_wf Z HZW.out.1))
          have HO2 := hid (ownsRow_below HO.out hb2)
          have HFL := hid (frameL_len Z HZW.out.1)
          have HLN := hid (show 32 * kk ≤ 1000 by have := HNN.out; omega)
          have HBS := hid hB2.size
          have HR := hid hR
          clear hown2 hR
          go_wp2_with ((with_reducible refine at_op (.call { callee := .builtin .append, args := #[.tmp 33, .tmp 34], argTypes := #[22, 22] }) ?_); refine wpList_append_reads rfl (.tmp 33) (.tmp 34) 22 rfl w.heap.size 5 i0 (.int .u8 0) .u8 1 Tryd.underlying22 hi hz0 hz1 hz2 rfl _ _ _ rfl HO2.out _ (frameL Z) rfl HR2.out ?_ ?_ HBS.out ?_; (rw [HFL.out]; have := HLN.out; simp [maxLen]; omega); (rw [HFL.out]; have := HLN.out; omega); intro v5 w5 hown5 hg5)
          have hB5 := hB2.grown hg5 hB2.size (fun k e => (HO2.out.lt k e).1)
          rw [HFL.out] at hown5
          go_roundw
          case rel =>
            refine ⟨kk + 1, by omega, by go_num, hB5, ?_, ?_, fun h => by omega⟩
            · rw [HTK.out, List.flatMap_append, List.map_append]
              simpa [Nat.mul_add] using hown5
            · rw [HTK.out]
              intro Z' hZ'
              rcases List.mem_append.1 hZ' with h | h
              · exact HRT.out Z' h
              · simp at h; subst h; exact HR.out
          case measure => simp [intOf]; omega
        · rw [putE_wrong hR]
          have HB2 := hid hB2
          clear hown2 hR
          have AW := hid (awake46 a0 a1 w2 (F0.out.later HB2.out))
          go_wp2_with fail
          refine AW.out.mono ?_
          rintro e wz ⟨rfl, hbz⟩
          go_wp2
          go_ret
          exact ⟨rfl, chain HB2.out hbz⟩
      · have hlt' : ¬ (kk : Int) < N := by omega
        have hkN : kk = N := by omega
        have hall : l.take kk = l := List.take_of_length_le (by have := HN.out; omega)
        rw [hall] at hown hright
        have HLOOK0 := hid (look_frames l (fun Z hZ => ⟨HWF.out Z hZ, hright Z hZ⟩))
        have HFW : ∀ x ∈ l.flatMap frameL, (Lit.int .u8 x).wf = true := fun x hx => by
          obtain ⟨Z, hZ, hx⟩ := List.mem_flatMap.1 hx
          exact frameL_wf Z (HWF.out Z hZ).1 x hx
        have hflen : (l.flatMap frameL).length = 32 * kk := by
          have := hown.1
          rw [List.length_map, Nat.mul_one] at this
          exact this
        generalize hAl : l.flatMap frameL = Al at *
        have HLOOK := hid HLOOK0.out
        have HAL := hid (show Al.length ≤ 1000 by rw [hflen]; omega)
        have HFLN := hid hflen
        have HOWN := hid hown
        have HBW := hid hbw
        clear hall hright HLOOK0 hflen hAl
        by_cases hk0 : kk = 0
        · obtain rfl := hzero hk0
          have hAl : Al = [] := List.eq_nil_of_length_eq_zero (by rw [HFLN.out]; omega)
          subst hAl
          by_cases hp : 0 < cut
          · have hq : ¬ cut < 0 := by omega
            try clear hcc
            go_wp2_with fail
            refine (new_any (Ok := fun _ => True) wr).mono ?_
            rintro e w1 ⟨rfl, hs1, hb1⟩
            obtain ⟨g, hg⟩ : ∃ g, g = wr.heap.size := ⟨_, rfl⟩
            rw [← hg] at hs1 ⊢
            have HB1 := hid (chain HBW.out hb1)
            have HGW := hid (show w.heap.size ≤ g by have := HBW.out.size; omega)
            have HG1 := hid (show g < w1.heap.size from hs1.choose_spec.choose_spec.2.2.1)
            have HWR1 := hid hb1
            have HGR := hid (show wr.heap.size ≤ g by omega)
            clear hb1 hg
            have HSPL := hid (show ([] : List Int) ++ ([] : List Int) = ([] : List Int) from by simp)
            have HL1 := hid (show (([] : List Int)).length + (([] : List Int)).length = (([] : List Int)).length by have := congrArg List.length HSPL.out; rwa [List.length_append] at this)
            have PP := hid (push_any g [] (([] : List Int)) 0 (.slice none 0 0) a0 a1 w w1 F0.out HB1.out HGW.out hs1 (fun _ _ => trivial) (reads_nil w1) (by decide) (by have h1 := HL1.out; have h2 := HAL.out; simp at h1 h2 ⊢; try omega))
            clear hs1
            rw [List.nil_append] at PP
            go_wp2_with fail
            refine PP.out.mono ?_
            rintro e w2 ⟨u1, rfl, tt2, hs2, hrow1⟩
            have HB2 := hid (HB1.out.trans (tt2.below HB1.out.size HGW.out))
            have HS2 := hid tt2.size
            have HRW2 := hid (HWR1.out.trans (tt2.below HWR1.out.size HGR.out))
            have HLC := hid (look_count (([] : List Int)))
            have HR2 := hid (reads_nil w2)
            have PQ := hid (push_any g _ (([] : List Int)) _ (.slice none 0 0) a0 a1 w w2 F0.out HB2.out HGW.out hs2 (fun _ _ => trivial) HR2.out (by omega) (by have := HL1.out; have := HAL.out; have := HLC.out.1; omega))
            obtain ⟨ua1, uc1, rfl⟩ := own_slice hrow1
            have HROW1 := hid hrow1
            clear PP tt2 hs2 hrow1
            go_wp2_with fail
            refine PQ.out.mono ?_
            rintro e w3 ⟨u2, rfl, tt3, hs3, hrow2⟩
            have HB3 := hid (HB2.out.trans (tt3.below HB2.out.size HGW.out))
            have HROW3 := hid (show Rows' w1.heap.size w3 _ _ from HROW1.out.kept tt3 (.inr (fun e => by have := (HROW1.out.lt g e).1; have := HG1.out; omega)))
            have LKA := HLOOK.out.symm.trans ((congrArg look HSPL.out).symm.trans (look_app (([] : List Int)) (([] : List Int))))
            have LE1 := hid (show (look (([] : List Int))).1 ++ (look ((look (([] : List Int))).2.2 ++ ([] : List Int))).1 = l from (congrArg (·.1) LKA).symm)
            have LE2 := hid (show (look (([] : List Int))).2.1 + (look ((look (([] : List Int))).2.2 ++ ([] : List Int))).2.1 = 0 from (congrArg (·.2.1) LKA).symm)
            have LE3 := hid (show (look ((look (([] : List Int))).2.2 ++ ([] : List Int))).2.2 = [] from (congrArg (·.2.2) LKA).symm)
            obtain ⟨ua2, uc2, rfl⟩ := own_slice hrow2
            have HROW2 := hid hrow2
            obtain ⟨sa, sc, p1, -⟩ := hs3
            rw [LE3.out, show (0 : Int) + ((look (([] : List Int))).2.1 : Int) + ((look ((look (([] : List Int))).2.2 ++ ([] : List Int))).2.1 : Int) = 0 by have := LE2.out; omega] at p1
            have HP1 := hid p1
            have HLL := hid (show (look (([] : List Int))).1.length + (look ((look (([] : List Int))).2.2 ++ ([] : List Int))).1.length = N by rw [← List.length_append, LE1.out]; exact HN.out.symm)
            have HM11 := hid (show ∀ Z ∈ (look ((look (([] : List Int))).2.2 ++ ([] : List Int))).1, Z.length = 11 from fun Z hZ => (HWF.out Z (by rw [← LE1.out]; exact List.mem_append_right _ hZ)).1)
            have HSZ := hid (show w1.heap.size ≤ w3.heap.size by have := tt3.size; have := HS2.out; omega)
            clear PQ LKA hrow2 p1 tt3 LE2 LE3
            generalize (look (([] : List Int))).1 = R1 at *
            generalize (look ((look (([] : List Int))).2.2 ++ ([] : List Int))).1 = R2 at *
            go_wp2_with (((with_reducible refine at_op (.call { callee := .builtin .append, args := #[.tmp 54, .tmp 59], argTypes := #[60, 60] }) ?_); refine wpList_append_rows rfl (.tmp 54) (.tmp 59) rfl w1.heap.size w2.heap.size _ _ _ _ rfl HROW3.out rfl HROW2.out HM11.out ?_ HSZ.out ?_; (have := HLL.out; have := HNN.out; omega); intro v4 w4 hown4 hg4 hl4))
            rw [LE1.out] at hown4
            have HB4 := hid (HB3.out.grown hg4 HB3.out.size (fun k e => by have := (HROW3.out.lt k e).1; have := HB1.out.size; omega))
            have p4 : w4.heap[g]? = some (.cells #[.slice sa 0 sc, .int .i64 0, .bool true] 112 (0, 0)) := (hg4.block g (lt_of_row HP1.out) (by first | exact fun e => (by have := (HROW3.out.lt g e).1; have := HG1.out; omega) | exact fun e => (by have := (HROW3.out.lt g e.symm).1; have := HG1.out; omega))).trans HP1.out
            have Z11 := fun Z hZ => (HWF.out Z hZ).1
            have SM := hid (show Calls Tryd.prog 45 #[v4, .slice a N c] w4 fun e w' => e = .returned (.bool true) ∧ Below w4.heap.size w4 w' from (rsame_any _ _ l l w4 (rrow_of_rows hown4 Z11) (HM.out w4 HB4.out) Z11 Z11 rfl (by have := HN.out; have := HNN.out; omega)).mono (by rintro e w' ⟨rfl, h⟩; exact ⟨by simp, h⟩))
            clear hown4 hg4 hl4 HROW1 HROW2 HROW3 Z11
            go_wp2_with fail
            refine SM.out.mono ?_
            rintro e w5 ⟨rfl, hb5⟩
            have HB5 := hid (chain HB4.out hb5)
            have p5 := (hb5.block g (lt_of_row p4)).trans p4
            have LO := hid (lost_row g 0 sc sa 0 true w5 p5)
            have WA := hid (waits_row g 0 sc sa 0 true w5 p5)
            clear p4 p5 hb5
            go_wp2_with fail
            refine LO.out.mono ?_
            rintro e w6 ⟨rfl, rfl⟩
            go_wp2_with fail
            refine WA.out.mono ?_
            rintro e w6 ⟨rfl, rfl⟩
            have AW := hid (awake46 a0 a1 w5 (F0.out.later HB5.out))
            go_wp2_with fail
            refine AW.out.mono ?_
            rintro e wz ⟨rfl, hbz⟩
            go_wp2
            go_ret
            exact ⟨rfl, chain HB5.out hbz⟩
          · try clear hcc
            go_wp2_with fail
            refine (new_any (Ok := fun _ => True) wr).mono ?_
            rintro e w1 ⟨rfl, hs1, hb1⟩
            obtain ⟨g, hg⟩ : ∃ g, g = wr.heap.size := ⟨_, rfl⟩
            rw [← hg] at hs1 ⊢
            have HB1 := hid (chain HBW.out hb1)
            have HGW := hid (show w.heap.size ≤ g by have := HBW.out.size; omega)
            have HG1 := hid (show g < w1.heap.size from hs1.choose_spec.choose_spec.2.2.1)
            have HWR1 := hid hb1
            have HGR := hid (show wr.heap.size ≤ g by omega)
            clear hb1 hg
            have HSPL := hid (show ([] : List Int) ++ ([] : List Int) = ([] : List Int) from by simp)
            have HL1 := hid (show (([] : List Int)).length + (([] : List Int)).length = (([] : List Int)).length by have := congrArg List.length HSPL.out; rwa [List.length_append] at this)
            have PP := hid (push_any g [] (([] : List Int)) 0 (.slice none 0 0) a0 a1 w w1 F0.out HB1.out HGW.out hs1 (fun _ _ => trivial) (reads_nil w1) (by decide) (by have h1 := HL1.out; have h2 := HAL.out; simp at h1 h2 ⊢; try omega))
            clear hs1
            rw [List.nil_append] at PP
            go_wp2_with fail
            refine PP.out.mono ?_
            rintro e w2 ⟨u1, rfl, tt2, hs2, hrow1⟩
            have HB2 := hid (HB1.out.trans (tt2.below HB1.out.size HGW.out))
            have HS2 := hid tt2.size
            have HRW2 := hid (HWR1.out.trans (tt2.below HWR1.out.size HGR.out))
            have HLC := hid (look_count (([] : List Int)))
            have HR2 := hid (reads_nil w2)
            have PQ := hid (push_any g _ (([] : List Int)) _ (.slice none 0 0) a0 a1 w w2 F0.out HB2.out HGW.out hs2 (fun _ _ => trivial) HR2.out (by omega) (by have := HL1.out; have := HAL.out; have := HLC.out.1; omega))
            obtain ⟨ua1, uc1, rfl⟩ := own_slice hrow1
            have HROW1 := hid hrow1
            clear PP tt2 hs2 hrow1
            go_wp2_with fail
            refine PQ.out.mono ?_
            rintro e w3 ⟨u2, rfl, tt3, hs3, hrow2⟩
            have HB3 := hid (HB2.out.trans (tt3.below HB2.out.size HGW.out))
            have HROW3 := hid (show Rows' w1.heap.size w3 _ _ from HROW1.out.kept tt3 (.inr (fun e => by have := (HROW1.out.lt g e).1; have := HG1.out; omega)))
            have LKA := HLOOK.out.symm.trans ((congrArg look HSPL.out).symm.trans (look_app (([] : List Int)) (([] : List Int))))
            have LE1 := hid (show (look (([] : List Int))).1 ++ (look ((look (([] : List Int))).2.2 ++ ([] : List Int))).1 = l from (congrArg (·.1) LKA).symm)
            have LE2 := hid (show (look (([] : List Int))).2.1 + (look ((look (([] : List Int))).2.2 ++ ([] : List Int))).2.1 = 0 from (congrArg (·.2.1) LKA).symm)
            have LE3 := hid (show (look ((look (([] : List Int))).2.2 ++ ([] : List Int))).2.2 = [] from (congrArg (·.2.2) LKA).symm)
            obtain ⟨ua2, uc2, rfl⟩ := own_slice hrow2
            have HROW2 := hid hrow2
            obtain ⟨sa, sc, p1, -⟩ := hs3
            rw [LE3.out, show (0 : Int) + ((look (([] : List Int))).2.1 : Int) + ((look ((look (([] : List Int))).2.2 ++ ([] : List Int))).2.1 : Int) = 0 by have := LE2.out; omega] at p1
            have HP1 := hid p1
            have HLL := hid (show (look (([] : List Int))).1.length + (look ((look (([] : List Int))).2.2 ++ ([] : List Int))).1.length = N by rw [← List.length_append, LE1.out]; exact HN.out.symm)
            have HM11 := hid (show ∀ Z ∈ (look ((look (([] : List Int))).2.2 ++ ([] : List Int))).1, Z.length = 11 from fun Z hZ => (HWF.out Z (by rw [← LE1.out]; exact List.mem_append_right _ hZ)).1)
            have HSZ := hid (show w1.heap.size ≤ w3.heap.size by have := tt3.size; have := HS2.out; omega)
            clear PQ LKA hrow2 p1 tt3 LE2 LE3
            generalize (look (([] : List Int))).1 = R1 at *
            generalize (look ((look (([] : List Int))).2.2 ++ ([] : List Int))).1 = R2 at *
            go_wp2_with (((with_reducible refine at_op (.call { callee := .builtin .append, args := #[.tmp 54, .tmp 59], argTypes := #[60, 60] }) ?_); refine wpList_append_rows rfl (.tmp 54) (.tmp 59) rfl w1.heap.size w2.heap.size _ _ _ _ rfl HROW3.out rfl HROW2.out HM11.out ?_ HSZ.out ?_; (have := HLL.out; have := HNN.out; omega); intro v4 w4 hown4 hg4 hl4))
            rw [LE1.out] at hown4
            have HB4 := hid (HB3.out.grown hg4 HB3.out.size (fun k e => by have := (HROW3.out.lt k e).1; have := HB1.out.size; omega))
            have p4 : w4.heap[g]? = some (.cells #[.slice sa 0 sc, .int .i64 0, .bool true] 112 (0, 0)) := (hg4.block g (lt_of_row HP1.out) (by first | exact fun e => (by have := (HROW3.out.lt g e).1; have := HG1.out; omega) | exact fun e => (by have := (HROW3.out.lt g e.symm).1; have := HG1.out; omega))).trans HP1.out
            have Z11 := fun Z hZ => (HWF.out Z hZ).1
            have SM := hid (show Calls Tryd.prog 45 #[v4, .slice a N c] w4 fun e w' => e = .returned (.bool true) ∧ Below w4.heap.size w4 w' from (rsame_any _ _ l l w4 (rrow_of_rows hown4 Z11) (HM.out w4 HB4.out) Z11 Z11 rfl (by have := HN.out; have := HNN.out; omega)).mono (by rintro e w' ⟨rfl, h⟩; exact ⟨by simp, h⟩))
            clear hown4 hg4 hl4 HROW1 HROW2 HROW3 Z11
            go_wp2_with fail
            refine SM.out.mono ?_
            rintro e w5 ⟨rfl, hb5⟩
            have HB5 := hid (chain HB4.out hb5)
            have p5 := (hb5.block g (lt_of_row p4)).trans p4
            have LO := hid (lost_row g 0 sc sa 0 true w5 p5)
            have WA := hid (waits_row g 0 sc sa 0 true w5 p5)
            clear p4 p5 hb5
            go_wp2_with fail
            refine LO.out.mono ?_
            rintro e w6 ⟨rfl, rfl⟩
            go_wp2_with fail
            refine WA.out.mono ?_
            rintro e w6 ⟨rfl, rfl⟩
            have AW := hid (awake46 a0 a1 w5 (F0.out.later HB5.out))
            go_wp2_with fail
            refine AW.out.mono ?_
            rintro e wz ⟨rfl, hbz⟩
            go_wp2
            go_ret
            exact ⟨rfl, chain HB5.out hbz⟩
        · rcases hown.2 with ⟨-, h⟩ | ⟨gb, cap, cur, rfl, hgb, hgh, hcap, hcm, -, -⟩
          · omega
          have hrAl : Reads .u8 wr (.slice (some ⟨gb, 0, none⟩) Al.length cap) Al := by
            have h0 : wr.ownsRow w.heap.size 5 1 (.slice (some ⟨gb, 0, none⟩) Al.length cap) Al.length (Al.map (Value.int .u8)) := by rw [HFLN.out]; exact hown
            exact reads_of_owns h0 HFW
          have HRA := hid (fun W (hW : Below wr.heap.size wr W) => hrAl.later hW)
          have HGB := hid (lt_of_row hgh)
          clear hown hzero hgh hgb hrAl HFW
          have HCAP := hid hcap
          rw [← HFLN.out]
          rw [← HFLN.out] at hcap
          by_cases hcc : 0 < cut ∧ cut < (Al.length : Int)
          · obtain ⟨nn, rfl⟩ : ∃ nn : Nat, cut = nn := ⟨cut.toNat, by omega⟩
            obtain ⟨hcc1, hcc2⟩ := hcc
            have hcn : ¬ cap = nn := by omega
            go_wp2_with fail
            refine (new_any (Ok := fun _ => True) wr).mono ?_
            rintro e w1 ⟨rfl, hs1, hb1⟩
            obtain ⟨g, hg⟩ : ∃ g, g = wr.heap.size := ⟨_, rfl⟩
            rw [← hg] at hs1 ⊢
            have HB1 := hid (chain HBW.out hb1)
            have HGW := hid (show w.heap.size ≤ g by have := HBW.out.size; omega)
            have HG1 := hid (show g < w1.heap.size from hs1.choose_spec.choose_spec.2.2.1)
            have HWR1 := hid hb1
            have HGR := hid (show wr.heap.size ≤ g by omega)
            clear hb1 hg
            have HSPL := hid (show Al.take nn ++ Al.drop nn = Al from by simp)
            have HL1 := hid (show (Al.take nn).length + (Al.drop nn).length = (Al).length by have := congrArg List.length HSPL.out; rwa [List.length_append] at this)
            have PP := hid (push_any g [] (Al.take nn) 0 (.slice (some ⟨gb, 0, none⟩) nn cap) a0 a1 w w1 F0.out HB1.out HGW.out hs1 (fun _ _ => trivial) ((HRA.out w1 HWR1.out).take nn (by omega)) (by decide) (by have h1 := HL1.out; have h2 := HAL.out; simp at h1 h2 ⊢; try omega))
            clear hs1
            rw [List.nil_append] at PP
            go_wp2_with fail
            refine PP.out.mono ?_
            rintro e w2 ⟨u1, rfl, tt2, hs2, hrow1⟩
            have HB2 := hid (HB1.out.trans (tt2.below HB1.out.size HGW.out))
            have HS2 := hid tt2.size
            have HRW2 := hid (HWR1.out.trans (tt2.below HWR1.out.size HGR.out))
            have HLC := hid (look_count (Al.take nn))
            have HR2 := hid ((show Reads .u8 w2 (.slice (some ⟨gb, nn, none⟩) (Al.length - nn) (cap - nn)) (Al.drop nn) by have := reads_drop (HRA.out w2 HRW2.out) (show nn ≤ Al.length by omega); rw [Nat.zero_add] at this; exact this))
            have PQ := hid (push_any g _ (Al.drop nn) _ (.slice (some ⟨gb, nn, none⟩) (Al.length - nn) (cap - nn)) a0 a1 w w2 F0.out HB2.out HGW.out hs2 (fun _ _ => trivial) HR2.out (by omega) (by have := HL1.out; have := HAL.out; have := HLC.out.1; omega))
            obtain ⟨ua1, uc1, rfl⟩ := own_slice hrow1
            have HROW1 := hid hrow1
            clear PP tt2 hs2 hrow1
            go_wp2_with fail
            refine PQ.out.mono ?_
            rintro e w3 ⟨u2, rfl, tt3, hs3, hrow2⟩
            have HB3 := hid (HB2.out.trans (tt3.below HB2.out.size HGW.out))
            have HROW3 := hid (show Rows' w1.heap.size w3 _ _ from HROW1.out.kept tt3 (.inr (fun e => by have := (HROW1.out.lt g e).1; have := HG1.out; omega)))
            have LKA := HLOOK.out.symm.trans ((congrArg look HSPL.out).symm.trans (look_app (Al.drop nn) (Al.take nn)))
            have LE1 := hid (show (look (Al.take nn)).1 ++ (look ((look (Al.take nn)).2.2 ++ Al.drop nn)).1 = l from (congrArg (·.1) LKA).symm)
            have LE2 := hid (show (look (Al.take nn)).2.1 + (look ((look (Al.take nn)).2.2 ++ Al.drop nn)).2.1 = 0 from (congrArg (·.2.1) LKA).symm)
            have LE3 := hid (show (look ((look (Al.take nn)).2.2 ++ Al.drop nn)).2.2 = [] from (congrArg (·.2.2) LKA).symm)
            obtain ⟨ua2, uc2, rfl⟩ := own_slice hrow2
            have HROW2 := hid hrow2
            obtain ⟨sa, sc, p1, -⟩ := hs3
            rw [LE3.out, show (0 : Int) + ((look (Al.take nn)).2.1 : Int) + ((look ((look (Al.take nn)).2.2 ++ Al.drop nn)).2.1 : Int) = 0 by have := LE2.out; omega] at p1
            have HP1 := hid p1
            have HLL := hid (show (look (Al.take nn)).1.length + (look ((look (Al.take nn)).2.2 ++ Al.drop nn)).1.length = N by rw [← List.length_append, LE1.out]; exact HN.out.symm)
            have HM11 := hid (show ∀ Z ∈ (look ((look (Al.take nn)).2.2 ++ Al.drop nn)).1, Z.length = 11 from fun Z hZ => (HWF.out Z (by rw [← LE1.out]; exact List.mem_append_right _ hZ)).1)
            have HSZ := hid (show w1.heap.size ≤ w3.heap.size by have := tt3.size; have := HS2.out; omega)
            clear PQ LKA hrow2 p1 tt3 LE2 LE3
            generalize (look (Al.take nn)).1 = R1 at *
            generalize (look ((look (Al.take nn)).2.2 ++ Al.drop nn)).1 = R2 at *
            go_wp2_with (((with_reducible refine at_op (.call { callee := .builtin .append, args := #[.tmp 54, .tmp 59], argTypes := #[60, 60] }) ?_); refine wpList_append_rows rfl (.tmp 54) (.tmp 59) rfl w1.heap.size w2.heap.size _ _ _ _ rfl HROW3.out rfl HROW2.out HM11.out ?_ HSZ.out ?_; (have := HLL.out; have := HNN.out; omega); intro v4 w4 hown4 hg4 hl4))
            rw [LE1.out] at hown4
            have HB4 := hid (HB3.out.grown hg4 HB3.out.size (fun k e => by have := (HROW3.out.lt k e).1; have := HB1.out.size; omega))
            have p4 : w4.heap[g]? = some (.cells #[.slice sa 0 sc, .int .i64 0, .bool true] 112 (0, 0)) := (hg4.block g (lt_of_row HP1.out) (by first | exact fun e => (by have := (HROW3.out.lt g e).1; have := HG1.out; omega) | exact fun e => (by have := (HROW3.out.lt g e.symm).1; have := HG1.out; omega))).trans HP1.out
            have Z11 := fun Z hZ => (HWF.out Z hZ).1
            have SM := hid (show Calls Tryd.prog 45 #[v4, .slice a N c] w4 fun e w' => e = .returned (.bool true) ∧ Below w4.heap.size w4 w' from (rsame_any _ _ l l w4 (rrow_of_rows hown4 Z11) (HM.out w4 HB4.out) Z11 Z11 rfl (by have := HN.out; have := HNN.out; omega)).mono (by rintro e w' ⟨rfl, h⟩; exact ⟨by simp, h⟩))
            clear hown4 hg4 hl4 HROW1 HROW2 HROW3 Z11
            go_wp2_with fail
            refine SM.out.mono ?_
            rintro e w5 ⟨rfl, hb5⟩
            have HB5 := hid (chain HB4.out hb5)
            have p5 := (hb5.block g (lt_of_row p4)).trans p4
            have LO := hid (lost_row g 0 sc sa 0 true w5 p5)
            have WA := hid (waits_row g 0 sc sa 0 true w5 p5)
            clear p4 p5 hb5
            go_wp2_with fail
            refine LO.out.mono ?_
            rintro e w6 ⟨rfl, rfl⟩
            go_wp2_with fail
            refine WA.out.mono ?_
            rintro e w6 ⟨rfl, rfl⟩
            have AW := hid (awake46 a0 a1 w5 (F0.out.later HB5.out))
            go_wp2_with fail
            refine AW.out.mono ?_
            rintro e wz ⟨rfl, hbz⟩
            go_wp2
            go_ret
            exact ⟨rfl, chain HB5.out hbz⟩
          · by_cases hce : cap = Al.length
            · subst hce
              by_cases hp : 0 < cut
              · have hq : ¬ cut < (Al.length : Int) := by omega
                try clear hcc
                go_wp2_with fail
                refine (new_any (Ok := fun _ => True) wr).mono ?_
                rintro e w1 ⟨rfl, hs1, hb1⟩
                obtain ⟨g, hg⟩ : ∃ g, g = wr.heap.size := ⟨_, rfl⟩
                rw [← hg] at hs1 ⊢
                have HB1 := hid (chain HBW.out hb1)
                have HGW := hid (show w.heap.size ≤ g by have := HBW.out.size; omega)
                have HG1 := hid (show g < w1.heap.size from hs1.choose_spec.choose_spec.2.2.1)
                have HWR1 := hid hb1
                have HGR := hid (show wr.heap.size ≤ g by omega)
                clear hb1 hg
                have HSPL := hid (show Al ++ ([] : List Int) = Al from by simp)
                have HL1 := hid (show (Al).length + (([] : List Int)).length = (Al).length by have := congrArg List.length HSPL.out; rwa [List.length_append] at this)
                have PP := hid (push_any g [] (Al) 0 (.slice (some ⟨gb, 0, none⟩) Al.length Al.length) a0 a1 w w1 F0.out HB1.out HGW.out hs1 (fun _ _ => trivial) (HRA.out w1 HWR1.out) (by decide) (by have h1 := HL1.out; have h2 := HAL.out; simp at h1 h2 ⊢; try omega))
                clear hs1
                rw [List.nil_append] at PP
                go_wp2_with fail
                refine PP.out.mono ?_
                rintro e w2 ⟨u1, rfl, tt2, hs2, hrow1⟩
                have HB2 := hid (HB1.out.trans (tt2.below HB1.out.size HGW.out))
                have HS2 := hid tt2.size
                have HRW2 := hid (HWR1.out.trans (tt2.below HWR1.out.size HGR.out))
                have HLC := hid (look_count (Al))
                have HR2 := hid ((show Reads .u8 w2 (.slice (some ⟨gb, 0, none⟩) 0 0) [] by exact ⟨_, 0, rfl, Nat.le_refl _, Nat.zero_le _, (fun x hx => by cases hx), (fun h => by cases h), fun b _ i hi => absurd hi (by simp)⟩))
                have PQ := hid (push_any g _ (([] : List Int)) _ (.slice (some ⟨gb, 0, none⟩) 0 0) a0 a1 w w2 F0.out HB2.out HGW.out hs2 (fun _ _ => trivial) HR2.out (by omega) (by have := HL1.out; have := HAL.out; have := HLC.out.1; omega))
                obtain ⟨ua1, uc1, rfl⟩ := own_slice hrow1
                have HROW1 := hid hrow1
                clear PP tt2 hs2 hrow1
                go_wp2_with fail
                refine PQ.out.mono ?_
                rintro e w3 ⟨u2, rfl, tt3, hs3, hrow2⟩
                have HB3 := hid (HB2.out.trans (tt3.below HB2.out.size HGW.out))
                have HROW3 := hid (show Rows' w1.heap.size w3 _ _ from HROW1.out.kept tt3 (.inr (fun e => by have := (HROW1.out.lt g e).1; have := HG1.out; omega)))
                have LKA := HLOOK.out.symm.trans ((congrArg look HSPL.out).symm.trans (look_app (([] : List Int)) (Al)))
                have LE1 := hid (show (look (Al)).1 ++ (look ((look (Al)).2.2 ++ ([] : List Int))).1 = l from (congrArg (·.1) LKA).symm)
                have LE2 := hid (show (look (Al)).2.1 + (look ((look (Al)).2.2 ++ ([] : List Int))).2.1 = 0 from (congrArg (·.2.1) LKA).symm)
                have LE3 := hid (show (look ((look (Al)).2.2 ++ ([] : List Int))).2.2 = [] from (congrArg (·.2.2) LKA).symm)
                obtain ⟨ua2, uc2, rfl⟩ := own_slice hrow2
                have HROW2 := hid hrow2
                obtain ⟨sa, sc, p1, -⟩ := hs3
                rw [LE3.out, show (0 : Int) + ((look (Al)).2.1 : Int) + ((look ((look (Al)).2.2 ++ ([] : List Int))).2.1 : Int) = 0 by have := LE2.out; omega] at p1
                have HP1 := hid p1
                have HLL := hid (show (look (Al)).1.length + (look ((look (Al)).2.2 ++ ([] : List Int))).1.length = N by rw [← List.length_append, LE1.out]; exact HN.out.symm)
                have HM11 := hid (show ∀ Z ∈ (look ((look (Al)).2.2 ++ ([] : List Int))).1, Z.length = 11 from fun Z hZ => (HWF.out Z (by rw [← LE1.out]; exact List.mem_append_right _ hZ)).1)
                have HSZ := hid (show w1.heap.size ≤ w3.heap.size by have := tt3.size; have := HS2.out; omega)
                clear PQ LKA hrow2 p1 tt3 LE2 LE3
                generalize (look (Al)).1 = R1 at *
                generalize (look ((look (Al)).2.2 ++ ([] : List Int))).1 = R2 at *
                go_wp2_with (((with_reducible refine at_op (.call { callee := .builtin .append, args := #[.tmp 54, .tmp 59], argTypes := #[60, 60] }) ?_); refine wpList_append_rows rfl (.tmp 54) (.tmp 59) rfl w1.heap.size w2.heap.size _ _ _ _ rfl HROW3.out rfl HROW2.out HM11.out ?_ HSZ.out ?_; (have := HLL.out; have := HNN.out; omega); intro v4 w4 hown4 hg4 hl4))
                rw [LE1.out] at hown4
                have HB4 := hid (HB3.out.grown hg4 HB3.out.size (fun k e => by have := (HROW3.out.lt k e).1; have := HB1.out.size; omega))
                have p4 : w4.heap[g]? = some (.cells #[.slice sa 0 sc, .int .i64 0, .bool true] 112 (0, 0)) := (hg4.block g (lt_of_row HP1.out) (by first | exact fun e => (by have := (HROW3.out.lt g e).1; have := HG1.out; omega) | exact fun e => (by have := (HROW3.out.lt g e.symm).1; have := HG1.out; omega))).trans HP1.out
                have Z11 := fun Z hZ => (HWF.out Z hZ).1
                have SM := hid (show Calls Tryd.prog 45 #[v4, .slice a N c] w4 fun e w' => e = .returned (.bool true) ∧ Below w4.heap.size w4 w' from (rsame_any _ _ l l w4 (rrow_of_rows hown4 Z11) (HM.out w4 HB4.out) Z11 Z11 rfl (by have := HN.out; have := HNN.out; omega)).mono (by rintro e w' ⟨rfl, h⟩; exact ⟨by simp, h⟩))
                clear hown4 hg4 hl4 HROW1 HROW2 HROW3 Z11
                go_wp2_with fail
                refine SM.out.mono ?_
                rintro e w5 ⟨rfl, hb5⟩
                have HB5 := hid (chain HB4.out hb5)
                have p5 := (hb5.block g (lt_of_row p4)).trans p4
                have LO := hid (lost_row g 0 sc sa 0 true w5 p5)
                have WA := hid (waits_row g 0 sc sa 0 true w5 p5)
                clear p4 p5 hb5
                go_wp2_with fail
                refine LO.out.mono ?_
                rintro e w6 ⟨rfl, rfl⟩
                go_wp2_with fail
                refine WA.out.mono ?_
                rintro e w6 ⟨rfl, rfl⟩
                have AW := hid (awake46 a0 a1 w5 (F0.out.later HB5.out))
                go_wp2_with fail
                refine AW.out.mono ?_
                rintro e wz ⟨rfl, hbz⟩
                go_wp2
                go_ret
                exact ⟨rfl, chain HB5.out hbz⟩
              · try clear hcc
                go_wp2_with fail
                refine (new_any (Ok := fun _ => True) wr).mono ?_
                rintro e w1 ⟨rfl, hs1, hb1⟩
                obtain ⟨g, hg⟩ : ∃ g, g = wr.heap.size := ⟨_, rfl⟩
                rw [← hg] at hs1 ⊢
                have HB1 := hid (chain HBW.out hb1)
                have HGW := hid (show w.heap.size ≤ g by have := HBW.out.size; omega)
                have HG1 := hid (show g < w1.heap.size from hs1.choose_spec.choose_spec.2.2.1)
                have HWR1 := hid hb1
                have HGR := hid (show wr.heap.size ≤ g by omega)
                clear hb1 hg
                have HSPL := hid (show Al ++ ([] : List Int) = Al from by simp)
                have HL1 := hid (show (Al).length + (([] : List Int)).length = (Al).length by have := congrArg List.length HSPL.out; rwa [List.length_append] at this)
                have PP := hid (push_any g [] (Al) 0 (.slice (some ⟨gb, 0, none⟩) Al.length Al.length) a0 a1 w w1 F0.out HB1.out HGW.out hs1 (fun _ _ => trivial) (HRA.out w1 HWR1.out) (by decide) (by have h1 := HL1.out; have h2 := HAL.out; simp at h1 h2 ⊢; try omega))
                clear hs1
                rw [List.nil_append] at PP
                go_wp2_with fail
                refine PP.out.mono ?_
                rintro e w2 ⟨u1, rfl, tt2, hs2, hrow1⟩
                have HB2 := hid (HB1.out.trans (tt2.below HB1.out.size HGW.out))
                have HS2 := hid tt2.size
                have HRW2 := hid (HWR1.out.trans (tt2.below HWR1.out.size HGR.out))
                have HLC := hid (look_count (Al))
                have HR2 := hid ((show Reads .u8 w2 (.slice (some ⟨gb, 0, none⟩) 0 0) [] by exact ⟨_, 0, rfl, Nat.le_refl _, Nat.zero_le _, (fun x hx => by cases hx), (fun h => by cases h), fun b _ i hi => absurd hi (by simp)⟩))
                have PQ := hid (push_any g _ (([] : List Int)) _ (.slice (some ⟨gb, 0, none⟩) 0 0) a0 a1 w w2 F0.out HB2.out HGW.out hs2 (fun _ _ => trivial) HR2.out (by omega) (by have := HL1.out; have := HAL.out; have := HLC.out.1; omega))
                obtain ⟨ua1, uc1, rfl⟩ := own_slice hrow1
                have HROW1 := hid hrow1
                clear PP tt2 hs2 hrow1
                go_wp2_with fail
                refine PQ.out.mono ?_
                rintro e w3 ⟨u2, rfl, tt3, hs3, hrow2⟩
                have HB3 := hid (HB2.out.trans (tt3.below HB2.out.size HGW.out))
                have HROW3 := hid (show Rows' w1.heap.size w3 _ _ from HROW1.out.kept tt3 (.inr (fun e => by have := (HROW1.out.lt g e).1; have := HG1.out; omega)))
                have LKA := HLOOK.out.symm.trans ((congrArg look HSPL.out).symm.trans (look_app (([] : List Int)) (Al)))
                have LE1 := hid (show (look (Al)).1 ++ (look ((look (Al)).2.2 ++ ([] : List Int))).1 = l from (congrArg (·.1) LKA).symm)
                have LE2 := hid (show (look (Al)).2.1 + (look ((look (Al)).2.2 ++ ([] : List Int))).2.1 = 0 from (congrArg (·.2.1) LKA).symm)
                have LE3 := hid (show (look ((look (Al)).2.2 ++ ([] : List Int))).2.2 = [] from (congrArg (·.2.2) LKA).symm)
                obtain ⟨ua2, uc2, rfl⟩ := own_slice hrow2
                have HROW2 := hid hrow2
                obtain ⟨sa, sc, p1, -⟩ := hs3
                rw [LE3.out, show (0 : Int) + ((look (Al)).2.1 : Int) + ((look ((look (Al)).2.2 ++ ([] : List Int))).2.1 : Int) = 0 by have := LE2.out; omega] at p1
                have HP1 := hid p1
                have HLL := hid (show (look (Al)).1.length + (look ((look (Al)).2.2 ++ ([] : List Int))).1.length = N by rw [← List.length_append, LE1.out]; exact HN.out.symm)
                have HM11 := hid (show ∀ Z ∈ (look ((look (Al)).2.2 ++ ([] : List Int))).1, Z.length = 11 from fun Z hZ => (HWF.out Z (by rw [← LE1.out]; exact List.mem_append_right _ hZ)).1)
                have HSZ := hid (show w1.heap.size ≤ w3.heap.size by have := tt3.size; have := HS2.out; omega)
                clear PQ LKA hrow2 p1 tt3 LE2 LE3
                generalize (look (Al)).1 = R1 at *
                generalize (look ((look (Al)).2.2 ++ ([] : List Int))).1 = R2 at *
                go_wp2_with (((with_reducible refine at_op (.call { callee := .builtin .append, args := #[.tmp 54, .tmp 59], argTypes := #[60, 60] }) ?_); refine wpList_append_rows rfl (.tmp 54) (.tmp 59) rfl w1.heap.size w2.heap.size _ _ _ _ rfl HROW3.out rfl HROW2.out HM11.out ?_ HSZ.out ?_; (have := HLL.out; have := HNN.out; omega); intro v4 w4 hown4 hg4 hl4))
                rw [LE1.out] at hown4
                have HB4 := hid (HB3.out.grown hg4 HB3.out.size (fun k e => by have := (HROW3.out.lt k e).1; have := HB1.out.size; omega))
                have p4 : w4.heap[g]? = some (.cells #[.slice sa 0 sc, .int .i64 0, .bool true] 112 (0, 0)) := (hg4.block g (lt_of_row HP1.out) (by first | exact fun e => (by have := (HROW3.out.lt g e).1; have := HG1.out; omega) | exact fun e => (by have := (HROW3.out.lt g e.symm).1; have := HG1.out; omega))).trans HP1.out
                have Z11 := fun Z hZ => (HWF.out Z hZ).1
                have SM := hid (show Calls Tryd.prog 45 #[v4, .slice a N c] w4 fun e w' => e = .returned (.bool true) ∧ Below w4.heap.size w4 w' from (rsame_any _ _ l l w4 (rrow_of_rows hown4 Z11) (HM.out w4 HB4.out) Z11 Z11 rfl (by have := HN.out; have := HNN.out; omega)).mono (by rintro e w' ⟨rfl, h⟩; exact ⟨by simp, h⟩))
                clear hown4 hg4 hl4 HROW1 HROW2 HROW3 Z11
                go_wp2_with fail
                refine SM.out.mono ?_
                rintro e w5 ⟨rfl, hb5⟩
                have HB5 := hid (chain HB4.out hb5)
                have p5 := (hb5.block g (lt_of_row p4)).trans p4
                have LO := hid (lost_row g 0 sc sa 0 true w5 p5)
                have WA := hid (waits_row g 0 sc sa 0 true w5 p5)
                clear p4 p5 hb5
                go_wp2_with fail
                refine LO.out.mono ?_
                rintro e w6 ⟨rfl, rfl⟩
                go_wp2_with fail
                refine WA.out.mono ?_
                rintro e w6 ⟨rfl, rfl⟩
                have AW := hid (awake46 a0 a1 w5 (F0.out.later HB5.out))
                go_wp2_with fail
                refine AW.out.mono ?_
                rintro e wz ⟨rfl, hbz⟩
                go_wp2
                go_ret
                exact ⟨rfl, chain HB5.out hbz⟩
            · 
              by_cases hp : 0 < cut
              · have hq : ¬ cut < (Al.length : Int) := by omega
                try clear hcc
                go_wp2_with fail
                refine (new_any (Ok := fun _ => True) wr).mono ?_
                rintro e w1 ⟨rfl, hs1, hb1⟩
                obtain ⟨g, hg⟩ : ∃ g, g = wr.heap.size := ⟨_, rfl⟩
                rw [← hg] at hs1 ⊢
                have HB1 := hid (chain HBW.out hb1)
                have HGW := hid (show w.heap.size ≤ g by have := HBW.out.size; omega)
                have HG1 := hid (show g < w1.heap.size from hs1.choose_spec.choose_spec.2.2.1)
                have HWR1 := hid hb1
                have HGR := hid (show wr.heap.size ≤ g by omega)
                clear hb1 hg
                have HSPL := hid (show Al ++ ([] : List Int) = Al from by simp)
                have HL1 := hid (show (Al).length + (([] : List Int)).length = (Al).length by have := congrArg List.length HSPL.out; rwa [List.length_append] at this)
                have PP := hid (push_any g [] (Al) 0 (.slice (some ⟨gb, 0, none⟩) Al.length cap) a0 a1 w w1 F0.out HB1.out HGW.out hs1 (fun _ _ => trivial) (HRA.out w1 HWR1.out) (by decide) (by have h1 := HL1.out; have h2 := HAL.out; simp at h1 h2 ⊢; try omega))
                clear hs1
                rw [List.nil_append] at PP
                go_wp2_with fail
                refine PP.out.mono ?_
                rintro e w2 ⟨u1, rfl, tt2, hs2, hrow1⟩
                have HB2 := hid (HB1.out.trans (tt2.below HB1.out.size HGW.out))
                have HS2 := hid tt2.size
                have HRW2 := hid (HWR1.out.trans (tt2.below HWR1.out.size HGR.out))
                have HLC := hid (look_count (Al))
                have HR2 := hid ((show Reads .u8 w2 (.slice (some ⟨gb, Al.length, none⟩) 0 (cap - Al.length)) [] by have := reads_drop (HRA.out w2 HRW2.out) (Nat.le_refl Al.length); rw [Nat.zero_add, Nat.sub_self, List.drop_length] at this; exact this))
                have PQ := hid (push_any g _ (([] : List Int)) _ (.slice (some ⟨gb, Al.length, none⟩) 0 (cap - Al.length)) a0 a1 w w2 F0.out HB2.out HGW.out hs2 (fun _ _ => trivial) HR2.out (by omega) (by have := HL1.out; have := HAL.out; have := HLC.out.1; omega))
                obtain ⟨ua1, uc1, rfl⟩ := own_slice hrow1
                have HROW1 := hid hrow1
                clear PP tt2 hs2 hrow1
                go_wp2_with fail
                refine PQ.out.mono ?_
                rintro e w3 ⟨u2, rfl, tt3, hs3, hrow2⟩
                have HB3 := hid (HB2.out.trans (tt3.below HB2.out.size HGW.out))
                have HROW3 := hid (show Rows' w1.heap.size w3 _ _ from HROW1.out.kept tt3 (.inr (fun e => by have := (HROW1.out.lt g e).1; have := HG1.out; omega)))
                have LKA := HLOOK.out.symm.trans ((congrArg look HSPL.out).symm.trans (look_app (([] : List Int)) (Al)))
                have LE1 := hid (show (look (Al)).1 ++ (look ((look (Al)).2.2 ++ ([] : List Int))).1 = l from (congrArg (·.1) LKA).symm)
                have LE2 := hid (show (look (Al)).2.1 + (look ((look (Al)).2.2 ++ ([] : List Int))).2.1 = 0 from (congrArg (·.2.1) LKA).symm)
                have LE3 := hid (show (look ((look (Al)).2.2 ++ ([] : List Int))).2.2 = [] from (congrArg (·.2.2) LKA).symm)
                obtain ⟨ua2, uc2, rfl⟩ := own_slice hrow2
                have HROW2 := hid hrow2
                obtain ⟨sa, sc, p1, -⟩ := hs3
                rw [LE3.out, show (0 : Int) + ((look (Al)).2.1 : Int) + ((look ((look (Al)).2.2 ++ ([] : List Int))).2.1 : Int) = 0 by have := LE2.out; omega] at p1
                have HP1 := hid p1
                have HLL := hid (show (look (Al)).1.length + (look ((look (Al)).2.2 ++ ([] : List Int))).1.length = N by rw [← List.length_append, LE1.out]; exact HN.out.symm)
                have HM11 := hid (show ∀ Z ∈ (look ((look (Al)).2.2 ++ ([] : List Int))).1, Z.length = 11 from fun Z hZ => (HWF.out Z (by rw [← LE1.out]; exact List.mem_append_right _ hZ)).1)
                have HSZ := hid (show w1.heap.size ≤ w3.heap.size by have := tt3.size; have := HS2.out; omega)
                clear PQ LKA hrow2 p1 tt3 LE2 LE3
                generalize (look (Al)).1 = R1 at *
                generalize (look ((look (Al)).2.2 ++ ([] : List Int))).1 = R2 at *
                go_wp2_with (((with_reducible refine at_op (.call { callee := .builtin .append, args := #[.tmp 54, .tmp 59], argTypes := #[60, 60] }) ?_); refine wpList_append_rows rfl (.tmp 54) (.tmp 59) rfl w1.heap.size w2.heap.size _ _ _ _ rfl HROW3.out rfl HROW2.out HM11.out ?_ HSZ.out ?_; (have := HLL.out; have := HNN.out; omega); intro v4 w4 hown4 hg4 hl4))
                rw [LE1.out] at hown4
                have HB4 := hid (HB3.out.grown hg4 HB3.out.size (fun k e => by have := (HROW3.out.lt k e).1; have := HB1.out.size; omega))
                have p4 : w4.heap[g]? = some (.cells #[.slice sa 0 sc, .int .i64 0, .bool true] 112 (0, 0)) := (hg4.block g (lt_of_row HP1.out) (by first | exact fun e => (by have := (HROW3.out.lt g e).1; have := HG1.out; omega) | exact fun e => (by have := (HROW3.out.lt g e.symm).1; have := HG1.out; omega))).trans HP1.out
                have Z11 := fun Z hZ => (HWF.out Z hZ).1
                have SM := hid (show Calls Tryd.prog 45 #[v4, .slice a N c] w4 fun e w' => e = .returned (.bool true) ∧ Below w4.heap.size w4 w' from (rsame_any _ _ l l w4 (rrow_of_rows hown4 Z11) (HM.out w4 HB4.out) Z11 Z11 rfl (by have := HN.out; have := HNN.out; omega)).mono (by rintro e w' ⟨rfl, h⟩; exact ⟨by simp, h⟩))
                clear hown4 hg4 hl4 HROW1 HROW2 HROW3 Z11
                go_wp2_with fail
                refine SM.out.mono ?_
                rintro e w5 ⟨rfl, hb5⟩
                have HB5 := hid (chain HB4.out hb5)
                have p5 := (hb5.block g (lt_of_row p4)).trans p4
                have LO := hid (lost_row g 0 sc sa 0 true w5 p5)
                have WA := hid (waits_row g 0 sc sa 0 true w5 p5)
                clear p4 p5 hb5
                go_wp2_with fail
                refine LO.out.mono ?_
                rintro e w6 ⟨rfl, rfl⟩
                go_wp2_with fail
                refine WA.out.mono ?_
                rintro e w6 ⟨rfl, rfl⟩
                have AW := hid (awake46 a0 a1 w5 (F0.out.later HB5.out))
                go_wp2_with fail
                refine AW.out.mono ?_
                rintro e wz ⟨rfl, hbz⟩
                go_wp2
                go_ret
                exact ⟨rfl, chain HB5.out hbz⟩
              · try clear hcc
                go_wp2_with fail
                refine (new_any (Ok := fun _ => True) wr).mono ?_
                rintro e w1 ⟨rfl, hs1, hb1⟩
                obtain ⟨g, hg⟩ : ∃ g, g = wr.heap.size := ⟨_, rfl⟩
                rw [← hg] at hs1 ⊢
                have HB1 := hid (chain HBW.out hb1)
                have HGW := hid (show w.heap.size ≤ g by have := HBW.out.size; omega)
                have HG1 := hid (show g < w1.heap.size from hs1.choose_spec.choose_spec.2.2.1)
                have HWR1 := hid hb1
                have HGR := hid (show wr.heap.size ≤ g by omega)
                clear hb1 hg
                have HSPL := hid (show Al ++ ([] : List Int) = Al from by simp)
                have HL1 := hid (show (Al).length + (([] : List Int)).length = (Al).length by have := congrArg List.length HSPL.out; rwa [List.length_append] at this)
                have PP := hid (push_any g [] (Al) 0 (.slice (some ⟨gb, 0, none⟩) Al.length cap) a0 a1 w w1 F0.out HB1.out HGW.out hs1 (fun _ _ => trivial) (HRA.out w1 HWR1.out) (by decide) (by have h1 := HL1.out; have h2 := HAL.out; simp at h1 h2 ⊢; try omega))
                clear hs1
                rw [List.nil_append] at PP
                go_wp2_with fail
                refine PP.out.mono ?_
                rintro e w2 ⟨u1, rfl, tt2, hs2, hrow1⟩
                have HB2 := hid (HB1.out.trans (tt2.below HB1.out.size HGW.out))
                have HS2 := hid tt2.size
                have HRW2 := hid (HWR1.out.trans (tt2.below HWR1.out.size HGR.out))
                have HLC := hid (look_count (Al))
                have HR2 := hid ((show Reads .u8 w2 (.slice (some ⟨gb, Al.length, none⟩) 0 (cap - Al.length)) [] by have := reads_drop (HRA.out w2 HRW2.out) (Nat.le_refl Al.length); rw [Nat.zero_add, Nat.sub_self, List.drop_length] at this; exact this))
                have PQ := hid (push_any g _ (([] : List Int)) _ (.slice (some ⟨gb, Al.length, none⟩) 0 (cap - Al.length)) a0 a1 w w2 F0.out HB2.out HGW.out hs2 (fun _ _ => trivial) HR2.out (by omega) (by have := HL1.out; have := HAL.out; have := HLC.out.1; omega))
                obtain ⟨ua1, uc1, rfl⟩ := own_slice hrow1
                have HROW1 := hid hrow1
                clear PP tt2 hs2 hrow1
                go_wp2_with fail
                refine PQ.out.mono ?_
                rintro e w3 ⟨u2, rfl, tt3, hs3, hrow2⟩
                have HB3 := hid (HB2.out.trans (tt3.below HB2.out.size HGW.out))
                have HROW3 := hid (show Rows' w1.heap.size w3 _ _ from HROW1.out.kept tt3 (.inr (fun e => by have := (HROW1.out.lt g e).1; have := HG1.out; omega)))
                have LKA := HLOOK.out.symm.trans ((congrArg look HSPL.out).symm.trans (look_app (([] : List Int)) (Al)))
                have LE1 := hid (show (look (Al)).1 ++ (look ((look (Al)).2.2 ++ ([] : List Int))).1 = l from (congrArg (·.1) LKA).symm)
                have LE2 := hid (show (look (Al)).2.1 + (look ((look (Al)).2.2 ++ ([] : List Int))).2.1 = 0 from (congrArg (·.2.1) LKA).symm)
                have LE3 := hid (show (look ((look (Al)).2.2 ++ ([] : List Int))).2.2 = [] from (congrArg (·.2.2) LKA).symm)
                obtain ⟨ua2, uc2, rfl⟩ := own_slice hrow2
                have HROW2 := hid hrow2
                obtain ⟨sa, sc, p1, -⟩ := hs3
                rw [LE3.out, show (0 : Int) + ((look (Al)).2.1 : Int) + ((look ((look (Al)).2.2 ++ ([] : List Int))).2.1 : Int) = 0 by have := LE2.out; omega] at p1
                have HP1 := hid p1
                have HLL := hid (show (look (Al)).1.length + (look ((look (Al)).2.2 ++ ([] : List Int))).1.length = N by rw [← List.length_append, LE1.out]; exact HN.out.symm)
                have HM11 := hid (show ∀ Z ∈ (look ((look (Al)).2.2 ++ ([] : List Int))).1, Z.length = 11 from fun Z hZ => (HWF.out Z (by rw [← LE1.out]; exact List.mem_append_right _ hZ)).1)
                have HSZ := hid (show w1.heap.size ≤ w3.heap.size by have := tt3.size; have := HS2.out; omega)
                clear PQ LKA hrow2 p1 tt3 LE2 LE3
                generalize (look (Al)).1 = R1 at *
                generalize (look ((look (Al)).2.2 ++ ([] : List Int))).1 = R2 at *
                go_wp2_with (((with_reducible refine at_op (.call { callee := .builtin .append, args := #[.tmp 54, .tmp 59], argTypes := #[60, 60] }) ?_); refine wpList_append_rows rfl (.tmp 54) (.tmp 59) rfl w1.heap.size w2.heap.size _ _ _ _ rfl HROW3.out rfl HROW2.out HM11.out ?_ HSZ.out ?_; (have := HLL.out; have := HNN.out; omega); intro v4 w4 hown4 hg4 hl4))
                rw [LE1.out] at hown4
                have HB4 := hid (HB3.out.grown hg4 HB3.out.size (fun k e => by have := (HROW3.out.lt k e).1; have := HB1.out.size; omega))
                have p4 : w4.heap[g]? = some (.cells #[.slice sa 0 sc, .int .i64 0, .bool true] 112 (0, 0)) := (hg4.block g (lt_of_row HP1.out) (by first | exact fun e => (by have := (HROW3.out.lt g e).1; have := HG1.out; omega) | exact fun e => (by have := (HROW3.out.lt g e.symm).1; have := HG1.out; omega))).trans HP1.out
                have Z11 := fun Z hZ => (HWF.out Z hZ).1
                have SM := hid (show Calls Tryd.prog 45 #[v4, .slice a N c] w4 fun e w' => e = .returned (.bool true) ∧ Below w4.heap.size w4 w' from (rsame_any _ _ l l w4 (rrow_of_rows hown4 Z11) (HM.out w4 HB4.out) Z11 Z11 rfl (by have := HN.out; have := HNN.out; omega)).mono (by rintro e w' ⟨rfl, h⟩; exact ⟨by simp, h⟩))
                clear hown4 hg4 hl4 HROW1 HROW2 HROW3 Z11
                go_wp2_with fail
                refine SM.out.mono ?_
                rintro e w5 ⟨rfl, hb5⟩
                have HB5 := hid (chain HB4.out hb5)
                have p5 := (hb5.block g (lt_of_row p4)).trans p4
                have LO := hid (lost_row g 0 sc sa 0 true w5 p5)
                have WA := hid (waits_row g 0 sc sa 0 true w5 p5)
                clear p4 p5 hb5
                go_wp2_with fail
                refine LO.out.mono ?_
                rintro e w6 ⟨rfl, rfl⟩
                go_wp2_with fail
                refine WA.out.mono ?_
                rintro e w6 ⟨rfl, rfl⟩
                have AW := hid (awake46 a0 a1 w5 (F0.out.later HB5.out))
                go_wp2_with fail
                refine AW.out.mono ?_
                rintro e wz ⟨rfl, hbz⟩
                go_wp2
                go_ret
                exact ⟨rfl, chain HB5.out hbz⟩
  · have h30' : ¬ (N : Int) ≤ 30 := by omega
    have AW := hid (awake46 a0 a1 w (F0.out.later (Below.refl _ w)))
    go_wp2_with fail
    refine AW.out.mono ?_
    rintro e wz ⟨rfl, hbz⟩
    go_wp2
    go_ret
    exact ⟨rfl, chain (Below.refl _ w) hbz⟩
end Go.Proofs.YtecbfegohdllbaaDoor
