/- The reference of layer 31 (sample): contracts. -/
import Derived.Test.YtecbfegohdllbaaDoorSample
namespace Go.Proofs.YtecbfegohdllbaaDoor
open Go.RowKit
set_option linter.unusedVariables false
set_option linter.unusedSimpArgs false
theorem nine_list (Z : List Int) (h : Z.length = 9) : ∃ z0 z1 z2 z3 z4 z5 z6 z7 z8, Z = [z0, z1, z2, z3, z4, z5, z6, z7, z8] := by
  match Z, h with
  | [a, b, c, d, e, f, g, i, j], _ => exact ⟨a, b, c, d, e, f, g, i, j, rfl⟩
theorem zcells_size (Z : List Int) : (zcells Z).size = Z.length := by simp [zcells]
theorem boxed_row (w : World) (Z : List Int) (t : TypeId) : (w.alloc (.cells (zcells Z) t)).heap[w.heap.size]? = some (.cells (zcells Z) t (0, 0)) := heap_alloc_new w _
theorem below_one {w w2 : World} {o : Obj} (hb : Below (w.alloc o).heap.size (w.alloc o) w2) : Below w.heap.size w w2 := ((Below.refl _ w).alloc (Nat.le_refl _) _).trans (hb.mono (by simp))
set_option maxRecDepth 20000 in
theorem nine_any (Z : List Int) (hZ : Z.length = 9) (w : World) :
    Calls Tryd.prog 65 #[.agg (zcells Z)] w fun e w' => ∃ b, e = .returned (.slice (some ⟨b, 0, none⟩) 9 9) ∧ Below w.heap.size w w' ∧ w.heap.size ≤ b ∧ w'.heap[b]? = some (.cells (zcells Z) 21 (0, 0)) := by
  obtain ⟨z0, z1, z2, z3, z4, z5, z6, z7, z8, rfl⟩ := nine_list Z hZ
  simp only [zcells, List.map_cons, List.map_nil]
  go_enter Tryd.func65, Tryd.ntmps65
  go_wp2
  go_ret
  exact ⟨w.heap.size + 1, rfl, by go_grown, by omega, heap_alloc2_new _ _ _⟩
theorem twoB_take (Z : List Int) (k : Nat) (h : k < Z.length) : twoB (Z.take (k + 1)) = twoB (Z.take k) ++ [Z.getD k 0 / 256 % 256, Z.getD k 0 % 256] := by
  rw [List.take_succ_eq_append_getElem h, twoB_snoc, List.getD_eq_getElem?_getD, List.getElem?_eq_getElem h]; rfl
set_option maxRecDepth 20000 in
set_option maxHeartbeats 1000000 in
theorem rsput_any (Z : List Int) (hZ : Z.length = 9) (hwf : ∀ x ∈ Z, (Lit.int .i32 x).wf = true) (w : World) :
    Calls Tryd.prog 31 #[.agg (zcells Z)] w (PutPost Z w) := by
  obtain ⟨i0, hi, hz0, hz1, hz2⟩ := info_parts Tryd.infoU8
  have N := hid (nine_any Z hZ)
  go_enter Tryd.func31, Tryd.ntmps31
  have hb1 := boxed_row w Z 38
  go_wp2_with (refine wpList_load_row rfl 38 (.tmp 1) rfl w.heap.size rfl _ _ _ _ hb1 Tryd.underlying38 rfl (by rw [zcells_size, hZ]; kernel_rfl) ?_)
  refine (N.out _).mono ?_
  rintro e w2 ⟨b, rfl, hb, hge, hc⟩
  have hB := below_one hb
  have hge' : w.heap.size < b := by simp at hge; omega
  clear hb hb1 hge
  go_wp2_with fail
  go_loopw [5, 6] (fun v0 i wr => ∃ (k : Nat) (v : Value), k ≤ 9 ∧ i = .int .i64 k ∧ v = v0 ∧ (∀ x ∈ Z.take k, inR x) ∧ wr.ownsRow (b + 1) 5 1 v (2 * k) (vU8 (twoB (Z.take k))) ∧ wr.heap[b]? = some (.cells (zcells Z) 21 (0, 0)) ∧ Below w.heap.size w wr) (fun v i _ => 9 - (intOf i).toNat)
  case atStart => exact ⟨0, _, by omega, rfl, rfl, by simp, World.ownsRow_nil _ _ _ _, hc, hB⟩
  case round =>
    obtain ⟨k, v, hk, rfl, rfl, hall, hown, hcb, hwr⟩ := hrel
    clear hB hc
    by_cases hlt : k < 9
    · have hcc := cell_of_row wr b k _ _ _ hcb
      rw [zcells_get Z k (by omega)] at hcc
      have hmem : Z.getD k 0 ∈ Z := by rw [List.getD_eq_getElem?_getD, List.getElem?_eq_getElem (by omega)]; exact List.getElem_mem _
      have hx := bd_i32 (hwf _ hmem)
      have TT := hid (twoB_take Z k (by omega))
      have TK := hid (List.take_succ_eq_append_getElem (show k < Z.length by omega))
      have HG := hid (show Z[k]'(by omega) = Z.getD k 0 by rw [List.getD_eq_getElem?_getD, List.getElem?_eq_getElem (by omega)]; rfl)
      have HA := hid hall
      have HC := hid hcb
      clear hall hcb
      have hlb := (Array.getElem?_eq_some_iff.1 HC.out).1
      by_cases hr : inR (Z.getD k 0)
      · have hx1 := hr.1
        have hx2 := hr.2
        have HR := hid hr
        clear hr hmem
        generalize hX : Z.getD k 0 = X at *
        have e1 : X % 65536 / 256 = X / 256 % 256 := by omega
        have e2 : X % 65536 % 256 = X % 256 := by omega
        have HE := hid e1
        have HE2 := hid e2
        clear e1 e2
        go_wp2_with fail
        refine (mod_any _ _ _ (by omega) (by omega)).mono ?_
        rintro e w3 ⟨rfl, rfl⟩
        have hm0 : 0 ≤ X % 65536 := by omega
        have hm1 : X % 65536 < 65536 := by omega
        generalize hY : X % 65536 = Y at *
        have HY := hid hY
        clear hY
        go_wp2_with (at_builtin; refine wpList_append_own _ rfl _ _ 22 rfl (b + 1) 5 i0 (.int .u8 0) 1 1 Tryd.underlying22 hi hz0 hz1 hz2 rfl (by decide) _ _ _ rfl (hown.alloc _) ⟨wr.heap.size, 0, none⟩ 2 2 [.int .u8 (Y / 256), .int .u8 (Y % 256)] rfl rfl ?c1 ?c2 ?c3 ?c4 ?c5 ?_)
        case c1 =>
          intro j u hj
          rcases j with _ | _ | j <;> simp at hj <;> subst hj <;> simp [add_plain]
        case c2 => simp [Value.oneCell']
        case c3 => simp [maxLen]; omega
        case c4 => omega
        case c5 => simp; omega
        intro v' w5 hown5 hg5 _
        have hb5 : Below w.heap.size w w5 := (hwr.alloc hwr.size _).grown hg5 (by simp; have := hwr.size; omega) (fun k e => by have := (hown.lt k e).1; omega)
        have hc5 : w5.heap[b]? = some (.cells (zcells Z) 21 (0, 0)) := (hg5.block b (by simp; omega) (fun e => by have := (hown.lt b e.symm).1; omega)).trans ((Below.heap_alloc _ _ _ hlb).trans HC.out)
        go_wp2
        go_roundw
        case rel =>
          refine ⟨k + 1, _, by omega, by go_num, rfl, ?_, ?_, hc5, hb5⟩
          · rw [TK.out, HG.out]
            intro x hx
            rcases List.mem_append.1 hx with hx | hx
            · exact HA.out x hx
            · obtain rfl : x = X := by simpa using hx
              exact HR.out
          · rw [TT.out, ← HE.out, ← HE2.out, show 2 * (k + 1) = 2 * k + 2 by omega]
            simpa [vU8] using hown5
        case measure => simp [intOf]; omega
      · have HB := hid (fun hall : ∀ x ∈ Z, inR x => hr (hall _ hmem))
        have hx' : Z.getD k 0 < -32768 ∨ (-32768 ≤ Z.getD k 0 ∧ 32767 < Z.getD k 0) := by unfold inR at hr; omega
        clear hr hmem
        generalize Z.getD k 0 = X at *
        rcases hx' with hx1 | ⟨hx1, hx2⟩
        all_goals
          go_wp2
          go_ret2
          exact ⟨hwr, .inr ⟨HB.out, rfl⟩⟩
    · obtain rfl : k = 9 := by omega
      rw [show Z.take 9 = Z from List.take_of_length_le (by omega)] at hall hown
      have hr5 : Reads .u8 wr v (twoB Z) := reads_of_owns (n := 18) hown (twoB_wf Z)
      have SE := hid (rseal_any v (twoB Z) wr hr5 (by rw [twoB_len]; omega))
      have HA := hid hall
      clear hown hall hr5 hcb
      go_wp2_with fail
      refine SE.out.mono ?_
      rintro e w6 ⟨v6, rfl, hb6, hown6⟩
      rw [twoB_len, hZ] at hown6
      go_wp2
      go_ret2
      exact ⟨chain hwr hb6, .inl ⟨HA.out, _, rfl, own_base hown6 hwr.size⟩⟩
end Go.Proofs.YtecbfegohdllbaaDoor
