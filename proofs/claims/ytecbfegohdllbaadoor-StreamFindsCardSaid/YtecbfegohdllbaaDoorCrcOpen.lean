/- The reference's Of, Seal, Open of layer 11 (crc). -/
import Derived.Test.YtecbfegohdllbaaDoorCrcRef
import Derived.Test.YtecbfegohdllbaaDoorCrcNought
import Derived.Test.YtecbfegohdllbaaDoorPackA
namespace Go.Proofs.YtecbfegohdllbaaDoor
open Go.RowKit
set_option linter.unusedVariables false
theorem strOfNums_inj {l m : List Int} (hl : ∀ x ∈ l, (Lit.int .u8 x).wf = true) (hm : ∀ x ∈ m, (Lit.int .u8 x).wf = true) (h : strOfNums l = strOfNums m) : l = m := by
  have h2 : (l.map fun n => UInt8.ofNat n.toNat) = (m.map fun n => UInt8.ofNat n.toNat) := by
    rw [← strOfNums_data, ← strOfNums_data, h]
  clear h
  induction l generalizing m with
  | nil => cases m with
    | nil => rfl
    | cons y m => simp at h2
  | cons x l ih => cases m with
    | nil => simp at h2
    | cons y m =>
      simp only [List.map_cons, List.cons.injEq] at h2
      have hx := bd_u8 (hl x (by simp))
      have hy := bd_u8 (hm y (by simp))
      have e := congrArg UInt8.toNat h2.1
      simp only [UInt8.toNat_ofNat'] at e
      rw [ih (fun z hz => hl z (by simp [hz])) (fun z hz => hm z (by simp [hz])) h2.2, show x = y by omega]
theorem str_ne {a b : ByteArray} (h : a ≠ b) : (!a.toList == b.toList) = true := by
  simp only [Bool.not_eq_true', beq_eq_false_iff_ne, ne_eq, ByteArray.toList_eq]
  exact fun e => h (ByteArray.ext (Array.toList_inj.1 e))
theorem rof_any (v : Value) (l : List Int) (w : World) (hr : Reads .u8 w v l) :
    Calls Tryd.prog 26 #[v] w fun e w' => e = .returned (.int .i32 (crcOf l).toNat) ∧ Below w.heap.size w w' := by
  have f1 := hid (Reads.wf hr)
  have RP := hid (fun (h : 0 < l.length) => hr.plain h)
  obtain ⟨a, c, rfl, _, hm, _⟩ := id hr
  have h2' : l.length ≤ 9223372036854775807 := by unfold maxLen at hm; omega
  have hB := Below.refl w.heap.size w
  clear hr hm
  obtain ⟨n, hn0⟩ : ∃ n, l.length = n := ⟨_, rfl⟩
  rw [hn0]
  have hn := hid hn0
  rw [hn0] at h2'
  clear hn0
  go_enter Tryd.func26, Tryd.ntmps26
  go_wp2_with fail
  go_loopw [3, 4] (fun c i wr => ∃ k : Nat, k ≤ n ∧ i = .int .i64 k ∧ c = .int .i32 (crcFrom 65535#16 (l.take k)).toNat ∧ Below w.heap.size w wr) (fun c i _ => n - (intOf i).toNat)
  case atStart => exact ⟨0, Nat.zero_le _, rfl, rfl, hB⟩
  case round =>
    obtain ⟨k, hk, rfl, rfl, hwr⟩ := hrel
    by_cases hlt : k < n
    · obtain ⟨b, off, cap, hv, h1, h2, hlt1, hcell⟩ := RP.out (by rw [hn.out]; omega)
      have hL := hn.out
      obtain ⟨rfl, hq, rfl⟩ := Value.slice.inj hv
      have hkc : wr.cell? ⟨b, off + k, none⟩ = some (.int .u8 l[k]) := (hwr.cell (p := ⟨b, off + k, none⟩) hlt1).trans (hcell k (by omega))
      have hx := bd_u8 (f1.out l[k] (List.getElem_mem (by omega)))
      obtain ⟨x, hxx⟩ : ∃ x : Nat, l[k] = (x : Int) := ⟨l[k].toNat, by omega⟩
      have hs := crc_snoc 65535#16 l k (by omega)
      rw [hxx] at hkc hs hx
      have hc := (crcFrom 65535#16 (l.take k)).isLt
      have st := rstep_any ((crcFrom 65535#16 (l.take k)).toNat : Int) (by omega) x (by omega) wr
      rw [BitVec.ofInt_natCast, BitVec.ofNat_toNat, BitVec.setWidth_eq, ← hs] at st
      have ST := hid st
      clear hs hxx hcell hv h1 h2 hL hB hq st hc
      go_wp2_with fail
      refine ST.out.mono ?_
      rintro e w3 ⟨rfl, hb⟩
      replace hwr := chain hwr hb
      clear hb
      go_wp2
      go_roundw
      case rel => exact ⟨k + 1, by omega, by go_num, rfl, hwr⟩
      case measure => simp [intOf]; omega
    · obtain rfl : k = n := by omega
      rw [show l.take k = l by rw [← hn.out]; exact List.take_length]
      clear hB
      go_wp2
      go_ret
      exact ⟨rfl, hwr⟩
theorem ownsRow_below {w w' : World} {base : Nat} {e : TypeId} {size : Nat} {v : Value} {n : Nat} {xs : List Value} (h : w.ownsRow base e size v n xs) (hb : Below w.heap.size w w') : w'.ownsRow base e size v n xs := by
  obtain ⟨hl, h⟩ := h
  refine ⟨hl, h.imp id ?_⟩
  rintro ⟨g, cap, cur, rfl, hg, hc, rest⟩
  have hlt : g < w.heap.size := by
    rcases Nat.lt_or_ge g w.heap.size with h | h
    · exact h
    · rw [Array.getElem?_eq_none h] at hc; cases hc
  exact ⟨g, cap, cur, rfl, hg, (hb.block g hlt).trans hc, rest⟩
theorem ownsRow_nil (w : World) (base : Nat) (e : TypeId) : w.ownsRow base e 1 (.slice none 0 0) 0 [] := ⟨rfl, .inl ⟨rfl, rfl⟩⟩
set_option maxRecDepth 20000 in
theorem rseal_any (v : Value) (l : List Int) (w : World) (hr : Reads .u8 w v l) (hl : l.length ≤ 1000000) :
    Calls Tryd.prog 28 #[v] w fun e w' => ∃ v', e = .returned v' ∧ Below w.heap.size w w' ∧ w'.ownsRow w.heap.size 5 1 v' (l.length + 2) (vU8 (sealL l)) := by
  obtain ⟨i0, hi, hz0, hz1, hz2⟩ := info_parts Tryd.infoU8
  have O := hid (fun w' (hb : Below w.heap.size w w') => rof_any v l w' (hr.later hb))
  have hc := (crcOf l).isLt
  have R := hid hr
  clear hr
  go_enter Tryd.func28, Tryd.ntmps28
  go_wp2_with (at_builtin; refine wpList_append_reads rfl _ _ 22 rfl w.heap.size 5 i0 (.int .u8 0) .u8 1 Tryd.underlying22 hi hz0 hz1 hz2 rfl _ _ _ rfl (ownsRow_nil _ _ _) v l rfl ?c1 ?c2 ?c3 ?c4 ?_)
  case c1 => exact R.out
  case c2 => simp [maxLen]; omega
  case c3 => omega
  case c4 => exact Nat.le_refl _
  intro v1 w1 hown1 hg1
  have hb1 : Below w.heap.size w w1 := (Below.refl w.heap.size w).grown hg1 (Nat.le_refl _) (fun k e => by simp [Value.ownBlock] at e)
  have hz1' := hb1.size
  clear hg1
  go_wp2_with fail
  refine (O.out _ hb1).mono ?_
  rintro e w2 ⟨rfl, hb⟩
  have hown2 := ownsRow_below hown1 hb
  have hb2 := chain hb1 hb
  have hz2' := hb2.size
  clear hb hown1 hb1 hz1' O R
  go_wp2_with (at_builtin; refine wpList_append_own _ rfl _ _ 22 rfl w.heap.size 5 i0 (.int .u8 0) 1 1 Tryd.underlying22 hi hz0 hz1 hz2 rfl (by decide) _ _ _ rfl (hown2.alloc _) ⟨w2.heap.size, 0, none⟩ 1 1 [.int .u8 (hiB (crcOf l))] rfl rfl ?d3 ?d4 ?d5 ?d6 ?d7 ?_)
  case d3 =>
    intro j u h
    rcases j with _ | j <;> simp at h <;> subst h <;> go_simp <;> rfl
  case d4 => simp [Value.oneCell']
  case d5 => simp [maxLen]; omega
  case d6 => omega
  case d7 => simp; omega
  intro v3 w3 hown3 hg3 _
  have hb3 : Below w.heap.size w w3 := (hb2.alloc hb2.size _).grown hg3 (by simp; omega) (fun k e => (hown2.lt k e).1)
  have hz3' := hb3.size
  clear hg3 hown2 hb2 hz2'
  go_wp2_with (at_builtin; refine wpList_append_own _ rfl _ _ 22 rfl w.heap.size 5 i0 (.int .u8 0) 1 1 Tryd.underlying22 hi hz0 hz1 hz2 rfl (by decide) _ _ _ rfl (hown3.alloc _) ⟨w3.heap.size, 0, none⟩ 1 1 [.int .u8 (loB (crcOf l))] rfl rfl ?f3 ?f4 ?f5 ?f6 ?f7 ?_)
  case f3 =>
    intro j u h
    rcases j with _ | j <;> simp at h <;> subst h <;> go_simp <;> rfl
  case f4 => simp [Value.oneCell']
  case f5 => simp [maxLen]; omega
  case f6 => omega
  case f7 => simp; omega
  intro v4 w4 hown4 hg4 _
  have hb4 : Below w.heap.size w w4 := (hb3.alloc hb3.size _).grown hg4 (by simp; omega) (fun k e => (hown3.lt k e).1)
  go_wp2
  go_ret
  exact ⟨v4, rfl, hb4, by simpa [vU8, sealL] using hown4⟩
theorem ropen_short (a : Option Addr) (n c : Nat) (w : World) (hn : n < 2) :
    Calls Tryd.prog 23 #[.slice a n c] w fun e w' => e = .returned (.tuple #[.slice none 0 0, .int .i64 4]) ∧ w = w' := by
  go_enter Tryd.func23, Tryd.ntmps23
  go_wp2
  go_ret2
  exact ⟨rfl, rfl⟩
set_option maxRecDepth 20000 in
theorem ropen_bad (v : Value) (l : List Int) (m : Nat) (hm : l.length = m + 2) (w : World) (hr : Reads .u8 w v l) (hl : l.length ≤ 1000000) (hbad : l ≠ sealL (l.take m)) :
    Calls Tryd.prog 23 #[v] w fun e w' => e = .returned (.tuple #[.slice none 0 0, .int .i64 7]) ∧ Below w.heap.size w w' := by
  have hw := Reads.wf hr
  obtain ⟨b, off, c, rfl, h1, h2, hlt, _⟩ := hr.plain (by omega)
  have hrt := hr.take m (by omega)
  have SE := hid (fun w' (hb : Below w.heap.size w w') => rseal_any (.slice (some ⟨b, off, none⟩) m c) (l.take m) w' (hrt.later hb) (by simp; omega))
  have k0 := conv_reads_later _ _ w.drew (hr.later (Below.refl w.heap.size w).drew)
  have hwf := hid (sealL_wf (l := l.take m) (fun x hx => hw x (List.mem_of_mem_take hx)))
  have hB := (Below.refl w.heap.size w).drew
  have h2' : m + 2 ≤ 9223372036854775807 := by unfold maxLen at h2; omega
  have hmc : m ≤ c := by omega
  have hne : (!(strOfNums (sealL (l.take m))).toList == (strOfNums l).toList) = true := str_ne (fun h => hbad (strOfNums_inj hwf.out hw h).symm)
  clear hr hrt hw h1 h2 hbad hl
  rw [hm] at *
  clear hm
  go_enter Tryd.func23, Tryd.ntmps23
  go_wp2_with fail
  refine wp_region_B' (n := 8) (l := #[false, false, false, false, false, false, false, false]) (by kernel_rfl) (by kernel_rfl) (by kernel_rfl) ?_
  refine wpAnyB_take (i := 0) (v := ?vr0) (some 12) rfl rfl (by kernel_rfl) (by kernel_rfl) (by kernel_rfl) (fun _ _ _ h => h) (by rfl) ?hvr0 ?restr0
  case hvr0 => (intro w' hb; go_simp; try with_reducible rfl)
  simp only [Act.put, List.setIfInBounds_toArray, List.set_cons_zero, List.set_cons_succ]
  refine wpAnyB_take (i := 1) (v := ?vr1) (some 13) rfl rfl (by kernel_rfl) (by kernel_rfl) (by kernel_rfl) (fun _ _ _ h => h) (by rfl) ?hvr1 ?restr1
  case hvr1 => (intro w' hb; go_simp; try with_reducible rfl)
  simp only [Act.put, List.setIfInBounds_toArray, List.set_cons_zero, List.set_cons_succ]
  refine wpAnyB_take (i := 2) (v := ?vr2) (some 14) rfl rfl (by kernel_rfl) (by kernel_rfl) (by kernel_rfl) (fun _ _ _ h => h) (by rfl) ?hvr2 ?restr2
  case hvr2 => (intro w' hb; go_simp; try with_reducible rfl)
  simp only [Act.put, List.setIfInBounds_toArray, List.set_cons_zero, List.set_cons_succ]
  refine wpAnyB_take (i := 5) (v := ?vr5) (some 17) rfl rfl (by kernel_rfl) (by kernel_rfl) (by kernel_rfl) (fun _ _ _ h => h) (by rfl) ?hvr5 ?restr5
  case hvr5 => (intro w' hb; go_simp; try with_reducible rfl)
  simp only [Act.put, List.setIfInBounds_toArray, List.set_cons_zero, List.set_cons_succ]
  refine wpAnyB_take (i := 6) (v := ?vr6) (some 18) rfl rfl (by kernel_rfl) (by kernel_rfl) (by kernel_rfl) (fun _ _ _ h => h) (by rfl) ?hvr6 ?restr6
  case hvr6 => (intro w' hb; go_simp; rw [k0 w' hb]; rfl)
  simp only [Act.put, List.setIfInBounds_toArray, List.set_cons_zero, List.set_cons_succ]
  refine wpAnyB_alone (i := 3) rfl (by kernel_rfl) (by rfl) (fun K hK => ?_)
  go_simp
  refine (SE.out _ hB).mono ?_
  rintro e w2 ⟨v1, rfl, hb, hown⟩
  have k1 := conv_reads_later v1 (sealL (l.take m)) w2 (reads_of_owns hown hwf.out)
  clear hown k0
  replace hB := hB.trans (hb.mono (Nat.le_refl _))
  refine hK.out _ _ hb ?_
  clear hK K
  simp only [List.setIfInBounds_toArray, List.set_cons_zero, List.set_cons_succ]
  refine wpAnyB_take (i := 4) (v := ?vr4) (some 16) rfl rfl (by kernel_rfl) (by kernel_rfl) (by kernel_rfl) (fun _ _ _ h => h) (by rfl) ?hvr4 ?restr4
  case hvr4 => (intro w' hb; go_simp; try with_reducible rfl)
  simp only [Act.put, List.setIfInBounds_toArray, List.set_cons_zero, List.set_cons_succ]
  refine wpAnyB_take (i := 7) (v := ?vr7) (some 19) rfl rfl (by kernel_rfl) (by kernel_rfl) (by kernel_rfl) (fun _ _ _ h => h) (by rfl) ?hvr7 ?restr7
  case hvr7 => (intro w' hb; go_simp; try with_reducible rfl)
  simp only [Act.put, List.setIfInBounds_toArray, List.set_cons_zero, List.set_cons_succ]
  refine wpAnyB_done (by kernel_rfl) ?_ _
  go_wp2
  go_ret2
  exact ⟨rfl, hB⟩
set_option maxRecDepth 20000 in
theorem ropen_ok (v : Value) (l : List Int) (m : Nat) (hm : l.length = m + 2) (w : World) (hr : Reads .u8 w v l) (hl : l.length ≤ 1000000) (hok : l = sealL (l.take m)) :
    Calls Tryd.prog 23 #[v] w fun e w' => ∃ v', e = .returned (.tuple #[v', .int .i64 0]) ∧ Below w.heap.size w w' ∧ w'.ownsRow w.heap.size 5 1 v' m (vU8 (l.take m)) := by
  obtain ⟨i0, hi, hz0, hz1, hz2⟩ := info_parts Tryd.infoU8
  have hw := Reads.wf hr
  obtain ⟨b, off, c, rfl, h1, h2, hlt, _⟩ := hr.plain (by omega)
  have hrt := hr.take m (by omega)
  have SE := hid (fun w' (hb : Below w.heap.size w w') => rseal_any (.slice (some ⟨b, off, none⟩) m c) (l.take m) w' (hrt.later hb) (by simp; omega))
  have k0 := conv_reads_later _ _ w.drew (hr.later (Below.refl w.heap.size w).drew)
  have hwf := hid (sealL_wf (l := l.take m) (fun x hx => hw x (List.mem_of_mem_take hx)))
  have hB := (Below.refl w.heap.size w).drew
  have h2' : m + 2 ≤ 9223372036854775807 := by unfold maxLen at h2; omega
  have hmc : m ≤ c := by omega
  have hne : strOfNums (sealL (l.take m)) = strOfNums l := by rw [← hok]
  have R := hid (fun w' (hb : Below w.heap.size w w') => hrt.later hb)
  have htl : (l.take m).length = m := by simp; omega
  clear hr hrt hw h1 h2 hok
  rw [hm] at *
  clear hm
  go_enter Tryd.func23, Tryd.ntmps23
  go_wp2_with fail
  refine wp_region_B' (n := 8) (l := #[false, false, false, false, false, false, false, false]) (by kernel_rfl) (by kernel_rfl) (by kernel_rfl) ?_
  refine wpAnyB_take (i := 0) (v := ?vr0) (some 12) rfl rfl (by kernel_rfl) (by kernel_rfl) (by kernel_rfl) (fun _ _ _ h => h) (by rfl) ?hvr0 ?restr0
  case hvr0 => (intro w' hb; go_simp; try with_reducible rfl)
  simp only [Act.put, List.setIfInBounds_toArray, List.set_cons_zero, List.set_cons_succ]
  refine wpAnyB_take (i := 1) (v := ?vr1) (some 13) rfl rfl (by kernel_rfl) (by kernel_rfl) (by kernel_rfl) (fun _ _ _ h => h) (by rfl) ?hvr1 ?restr1
  case hvr1 => (intro w' hb; go_simp; try with_reducible rfl)
  simp only [Act.put, List.setIfInBounds_toArray, List.set_cons_zero, List.set_cons_succ]
  refine wpAnyB_take (i := 2) (v := ?vr2) (some 14) rfl rfl (by kernel_rfl) (by kernel_rfl) (by kernel_rfl) (fun _ _ _ h => h) (by rfl) ?hvr2 ?restr2
  case hvr2 => (intro w' hb; go_simp; try with_reducible rfl)
  simp only [Act.put, List.setIfInBounds_toArray, List.set_cons_zero, List.set_cons_succ]
  refine wpAnyB_take (i := 5) (v := ?vr5) (some 17) rfl rfl (by kernel_rfl) (by kernel_rfl) (by kernel_rfl) (fun _ _ _ h => h) (by rfl) ?hvr5 ?restr5
  case hvr5 => (intro w' hb; go_simp; try with_reducible rfl)
  simp only [Act.put, List.setIfInBounds_toArray, List.set_cons_zero, List.set_cons_succ]
  refine wpAnyB_take (i := 6) (v := ?vr6) (some 18) rfl rfl (by kernel_rfl) (by kernel_rfl) (by kernel_rfl) (fun _ _ _ h => h) (by rfl) ?hvr6 ?restr6
  case hvr6 => (intro w' hb; go_simp; rw [k0 w' hb]; rfl)
  simp only [Act.put, List.setIfInBounds_toArray, List.set_cons_zero, List.set_cons_succ]
  refine wpAnyB_alone (i := 3) rfl (by kernel_rfl) (by rfl) (fun K hK => ?_)
  go_simp
  refine (SE.out _ hB).mono ?_
  rintro e w2 ⟨v1, rfl, hb, hown⟩
  have k1 := conv_reads_later v1 (sealL (l.take m)) w2 (reads_of_owns hown hwf.out)
  clear hown k0
  replace hB := hB.trans (hb.mono (Nat.le_refl _))
  refine hK.out _ _ hb ?_
  clear hK K
  simp only [List.setIfInBounds_toArray, List.set_cons_zero, List.set_cons_succ]
  refine wpAnyB_take (i := 4) (v := ?vr4) (some 16) rfl rfl (by kernel_rfl) (by kernel_rfl) (by kernel_rfl) (fun _ _ _ h => h) (by rfl) ?hvr4 ?restr4
  case hvr4 => (intro w' hb; go_simp; try with_reducible rfl)
  simp only [Act.put, List.setIfInBounds_toArray, List.set_cons_zero, List.set_cons_succ]
  refine wpAnyB_take (i := 7) (v := ?vr7) (some 19) rfl rfl (by kernel_rfl) (by kernel_rfl) (by kernel_rfl) (fun _ _ _ h => h) (by rfl) ?hvr7 ?restr7
  case hvr7 => (intro w' hb; go_simp; try with_reducible rfl)
  simp only [Act.put, List.setIfInBounds_toArray, List.set_cons_zero, List.set_cons_succ]
  refine wpAnyB_done (by kernel_rfl) ?_ _
  go_wp2_with (at_builtin; refine wpList_append_reads rfl _ _ 22 rfl w.heap.size 5 i0 (.int .u8 0) .u8 1 Tryd.underlying22 hi hz0 hz1 hz2 rfl _ _ _ rfl (ownsRow_nil _ _ _) (.slice (some ⟨b, off, none⟩) m c) (l.take m) rfl ?c1 ?c2 ?c3 ?c4 ?_)
  case c1 => exact R.out _ hB
  case c2 => simp [maxLen]; omega
  case c3 => simp; omega
  case c4 => exact hB.size
  intro v2 w3 hown3 hg3
  have hb3 : Below w.heap.size w w3 := hB.grown hg3 hB.size (fun k e => by simp [Value.ownBlock] at e)
  go_wp2
  go_ret2
  exact ⟨v2, rfl, hb3, by simpa [vU8, List.map_take] using hown3⟩
end Go.Proofs.YtecbfegohdllbaaDoor
