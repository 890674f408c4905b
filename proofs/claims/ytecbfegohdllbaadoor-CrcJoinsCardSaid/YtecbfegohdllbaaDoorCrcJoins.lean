/- The walk of the statement of layer 11 (crc) on xored texts. -/
import Derived.Test.YtecbfegohdllbaaDoorCrcFacts
import Derived.Test.YtecbfegohdllbaaDoorCrcAwake
import Derived.Test.YtecbfegohdllbaaDoorCrcNought
import Derived.Test.YtecbfegohdllbaaDoorEachF
namespace Go.Proofs.YtecbfegohdllbaaDoor
open Go.RowKit
set_option linter.unusedVariables false
theorem run_min2 (a b : Nat) (w : World) : (Builtin.min2 (.int .i64 a) (.int .i64 b)).run Tryd.prog w = .ok (.int .i64 (min a b : Nat)) w := by
  simp only [Builtin.min2, Sem.run_pure]
  congr 2
  split <;> omega
theorem run_min4 (ts : Array TypeId) (t : TypeId) (a b c : Nat) (w : World) : (Builtin.min_ ts t #[.int .i64 a, .int .i64 b, .int .i64 c, .int .i64 600]).run Tryd.prog w = .ok (.int .i64 (min (min (min a b) c) 600 : Nat)) w := by
  have h6 : (600 : Int) = ((600 : Nat) : Int) := rfl
  rw [h6]
  simp only [Builtin.min_, List.foldlM, Sem.run_bind, run_min2, Result.andThen_ok, Sem.run_pure]
theorem u8_xor (a b : Nat) (ha : a < 256) (hb : b < 256) : bits .xor .u8 (a : Int) (b : Int) = ((a ^^^ b : Nat) : Int) := by
  unfold bits
  show IntKind.u8.wrap (((BitVec.ofInt 8 (a : Int) ^^^ BitVec.ofInt 8 (b : Int)) : BitVec 8).toNat : Int) = _
  rw [BitVec.ofInt_natCast, BitVec.ofInt_natCast]
  have hx : a ^^^ b < 2 ^ 8 := Nat.xor_lt_two_pow (n := 8) ha hb
  have e : (BitVec.ofNat 8 a ^^^ BitVec.ofNat 8 b).toNat = a ^^^ b := by
    rw [BitVec.toNat_xor, BitVec.toNat_ofNat, BitVec.toNat_ofNat, Nat.mod_eq_of_lt (by omega), Nat.mod_eq_of_lt (by omega)]
  rw [e, IntKind.wrap_u8']; omega
theorem ofNat16_xor (a b : Nat) : BitVec.ofNat 16 (a ^^^ b) = BitVec.ofNat 16 a ^^^ BitVec.ofNat 16 b := by
  apply BitVec.eq_of_toNat_eq
  rw [BitVec.toNat_xor, BitVec.toNat_ofNat, BitVec.toNat_ofNat, BitVec.toNat_ofNat, Nat.xor_mod_two_pow]
theorem stepB_xor (u v : BitVec 16) (a b : Nat) : stepB (u ^^^ v) ((a ^^^ b : Nat) : Int) = stepB u a ^^^ stepB v b := by
  unfold stepB
  rw [← step8_xor, BitVec.ofInt_natCast, BitVec.ofInt_natCast, BitVec.ofInt_natCast, ofNat16_xor, BitVec.shiftLeft_xor_distrib]
  congr 1
  simp only [BitVec.xor_assoc]
  rw [xor_lc v]
theorem Reads.len_le {k : IntKind} {w : World} {a : Option Addr} {n c : Nat} {l : List Int} (h : Reads k w (.slice a n c) l) : n ≤ c := by
  obtain ⟨a', c', hv, h1, _⟩ := h
  obtain ⟨_, rfl, rfl⟩ := Value.slice.inj hv
  exact h1
theorem crc_push (l : List Int) (x : Int) : crcOf (l ++ [x]) = stepB (crcOf l) x := crcFrom_append _ _ _
set_option maxRecDepth 20000 in
set_option maxHeartbeats 4000000 in
theorem CrcJoins_walk (a0 : Option Addr) (len0 cap0 : Nat) (z0 : List Int) (a1 : Option Addr) (len1 cap1 : Nat) (z1 : List Int) (a2 : Option Addr) (len2 cap2 : Nat) (z2 : List Int) (w : World) (w0 : IsRow .u8 w a0 len0 cap0 z0) (w1 : IsRow .u8 w a1 len1 cap1 z1) (w2 : IsRow .u8 w a2 len2 cap2 z2) (h4 : Four w) :
    Calls Tryd.prog 3 #[.slice a0 len0 cap0, .slice a1 len1 cap1, .slice a2 len2 cap2] w fun e w' => e = .returned (.bool true) ∧ Below w.heap.size w w' := by
  obtain ⟨e0, r0⟩ := w0.reads
  obtain ⟨e1, r1⟩ := w1.reads
  obtain ⟨e2, r2⟩ := w2.reads
  generalize z0.take len0 = A at *
  generalize z1.take len1 = B at *
  generalize z2.take len2 = C at *
  clear w0 w1 w2
  obtain ⟨i0, hi, hz0, hz1, hz2⟩ := info_parts Tryd.infoU8
  have hn := fun w => run_min4 #[3, 3, 3, 3] 3 len0 len1 len2 w
  obtain ⟨n, en⟩ : ∃ n, min (min (min len0 len1) len2) 600 = n := ⟨_, rfl⟩
  rw [en] at hn
  have n0 : n ≤ len0 := by omega
  have n1 : n ≤ len1 := by omega
  have n2 : n ≤ len2 := by omega
  have n6 : n ≤ 600 := by omega
  clear en
  have hB := Below.refl w.heap.size w
  have m0 : n ≤ cap0 := Nat.le_trans n0 r0.len_le
  have m1 : n ≤ cap1 := Nat.le_trans n1 r1.len_le
  have m2 : n ≤ cap2 := Nat.le_trans n2 r2.len_le
  have F0 := hid (Reads.wf r0)
  have F1 := hid (Reads.wf r1)
  have F2 := hid (Reads.wf r2)
  have P0 := hid (fun (h : 0 < len0) => r0.plain (by omega))
  have P1 := hid (fun (h : 0 < len1) => r1.plain (by omega))
  have P2 := hid (fun (h : 0 < len2) => r2.plain (by omega))
  have T0 := hid (fun w' (hb : Below w.heap.size w w') => of_any _ _ w' ((r0.take n (by omega)).later hb) (h4.later hb))
  have T1 := hid (fun w' (hb : Below w.heap.size w w') => of_any _ _ w' ((r1.take n (by omega)).later hb) (h4.later hb))
  have T2 := hid (fun w' (hb : Below w.heap.size w w') => of_any _ _ w' ((r2.take n (by omega)).later hb) (h4.later hb))
  have H4 := hid (fun w' (hb : Below w.heap.size w w') => h4.later hb)
  have E0 := hid e0
  have E1 := hid e1
  have E2 := hid e2
  clear r0 r1 r2 h4 e0 e1 e2
  go_enter Tryd.func3, Tryd.ntmps3
  go_wp2_with fail
  go_loopw [8, 9] (fun v i wr => ∃ (k : Nat) (l : List Int), k ≤ n ∧ i = .int .i64 k ∧ wr.ownsRow w.heap.size 5 1 v k (vU8 l) ∧ (∀ x ∈ l, (Lit.int .u8 x).wf = true) ∧ crcOf l = crcOf (A.take k) ^^^ crcOf (B.take k) ^^^ crcOf (C.take k) ∧ Below w.heap.size w wr) (fun v i _ => n - (intOf i).toNat)
  case atStart => exact ⟨0, [], Nat.zero_le _, rfl, ⟨rfl, .inl ⟨rfl, rfl⟩⟩, by simp, by simp only [List.take_zero]; decide +kernel, hB⟩
  case round =>
    obtain ⟨k, l, hk, rfl, hown, hl, hcrc, hwr⟩ := hrel
    by_cases hlt : k < n
    · obtain ⟨ba, oa, ca, hv0, _, _, hl0, hc0⟩ := P0.out (by omega)
      obtain ⟨bb, ob, cb, hv1, _, _, hl1, hc1⟩ := P1.out (by omega)
      obtain ⟨bc, oc, cc, hv2, _, _, hl2, hc2⟩ := P2.out (by omega)
      have la := E0.out
      have lb := E1.out
      have lc := E2.out
      obtain ⟨rfl, hq0, rfl⟩ := Value.slice.inj hv0
      obtain ⟨rfl, hq1, rfl⟩ := Value.slice.inj hv1
      obtain ⟨rfl, hq2, rfl⟩ := Value.slice.inj hv2
      have ba' := bd_u8 (F0.out A[k] (List.getElem_mem (by omega)))
      have bb' := bd_u8 (F1.out B[k] (List.getElem_mem (by omega)))
      have bc' := bd_u8 (F2.out C[k] (List.getElem_mem (by omega)))
      obtain ⟨xa, hxa⟩ : ∃ x : Nat, A[k] = (x : Int) := ⟨A[k].toNat, by omega⟩
      obtain ⟨xb, hxb⟩ : ∃ x : Nat, B[k] = (x : Int) := ⟨B[k].toNat, by omega⟩
      obtain ⟨xc, hxc⟩ : ∃ x : Nat, C[k] = (x : Int) := ⟨C[k].toNat, by omega⟩
      have sa := crc_snoc 65535#16 A k (by omega)
      have sb := crc_snoc 65535#16 B k (by omega)
      have sc := crc_snoc 65535#16 C k (by omega)
      have ka : ∀ w', Below w.heap.size wr.drew w' → w'.cell? ⟨ba, oa + k, none⟩ = some (.int .u8 A[k]) := fun w' hb => ((hwr.drew.trans hb).cell (p := ⟨ba, oa + k, none⟩) hl0).trans (hc0 k (by omega))
      have kb : ∀ w', Below w.heap.size wr.drew w' → w'.cell? ⟨bb, ob + k, none⟩ = some (.int .u8 B[k]) := fun w' hb => ((hwr.drew.trans hb).cell (p := ⟨bb, ob + k, none⟩) hl1).trans (hc1 k (by omega))
      have kc : ∀ w', Below w.heap.size wr.drew w' → w'.cell? ⟨bc, oc + k, none⟩ = some (.int .u8 C[k]) := fun w' hb => ((hwr.drew.trans hb).cell (p := ⟨bc, oc + k, none⟩) hl2).trans (hc2 k (by omega))
      rw [hxa] at sa ka ba'
      rw [hxb] at sb kb bb'
      rw [hxc] at sc kc bc'
      have x1 := u8_xor xa xb (by omega) (by omega)
      have hab : xa ^^^ xb < 2 ^ 8 := Nat.xor_lt_two_pow (n := 8) (by omega) (by omega)
      have x2 := u8_xor (xa ^^^ xb) xc (by omega) (by omega)
      have habc : xa ^^^ xb ^^^ xc < 2 ^ 8 := Nat.xor_lt_two_pow (n := 8) hab (by omega)
      have q := crc_push l ((xa ^^^ xb ^^^ xc : Nat) : Int)
      rw [hcrc, stepB_xor, stepB_xor, show stepB (crcOf (A.take k)) xa = crcOf (A.take (k + 1)) from sa.symm, show stepB (crcOf (B.take k)) xb = crcOf (B.take (k + 1)) from sb.symm, show stepB (crcOf (C.take k)) xc = crcOf (C.take (k + 1)) from sc.symm] at q
      have hw2 : ∀ x ∈ l ++ [((xa ^^^ xb ^^^ xc : Nat) : Int)], (Lit.int .u8 x).wf = true := by
        intro x hx
        rcases List.mem_append.1 hx with hx | hx
        · exact hl x hx
        · obtain rfl := List.mem_singleton.1 hx
          apply u8_wf <;> omega
      have k0 : k < len0 := by omega
      have k1 : k < len1 := by omega
      have k2 : k < len2 := by omega
      have Q2 := hid q
      have HW := hid hw2
      have KA := hid ka
      have KB := hid kb
      have KC := hid kc
      clear q hw2 sa sb sc hxa hxb hxc hc0 hc1 hc2 hv0 hv1 hv2 hq0 hq1 hq2 hcrc ka kb kc hB hab habc ba' bb' bc'
      go_wp2_with fail
      refine wp_region_F' (B := w.heap.size) (n := 18) (l := #[false, false, false, false, false, false, false, false, false, false, false, false, false, false, false, false, false, false]) (by kernel_rfl) (by kernel_rfl) (by kernel_rfl) ?_
      refine wpAnyF_take (i := 0) (v := ?vr0) (some 22) rfl rfl (by kernel_rfl) (by kernel_rfl) (by kernel_rfl) (fun _ _ _ h => h) (by rfl) ?hvr0 ?restr0
      case hvr0 => (intro w' hb; go_simp; try with_reducible rfl)
      simp only [Act.put, List.setIfInBounds_toArray, List.set_cons_zero, List.set_cons_succ]
      refine wpAnyF_take (i := 1) (v := ?vr1) (some 23) rfl rfl (by kernel_rfl) (by kernel_rfl) (by kernel_rfl) (fun _ _ _ h => h) (by rfl) ?hvr1 ?restr1
      case hvr1 => (intro w' hb; go_simp; try with_reducible rfl)
      simp only [Act.put, List.setIfInBounds_toArray, List.set_cons_zero, List.set_cons_succ]
      refine wpAnyF_take (i := 2) (v := ?vr2) (some 24) rfl rfl (by kernel_rfl) (by kernel_rfl) (by kernel_rfl) (fun _ _ _ h => h) (by rfl) ?hvr2 ?restr2
      case hvr2 => (intro w' hb; go_simp; try with_reducible rfl)
      simp only [Act.put, List.setIfInBounds_toArray, List.set_cons_zero, List.set_cons_succ]
      refine wpAnyF_take (i := 3) (v := ?vr3) (some 25) rfl rfl (by kernel_rfl) (by kernel_rfl) (by kernel_rfl) (fun _ _ _ h => h) (by rfl) ?hvr3 ?restr3
      case hvr3 => (intro w' hb; go_simp; try with_reducible rfl)
      simp only [Act.put, List.setIfInBounds_toArray, List.set_cons_zero, List.set_cons_succ]
      refine wpAnyF_take (i := 4) (v := ?vr4) (some 26) rfl rfl (by kernel_rfl) (by kernel_rfl) (by kernel_rfl) (fun _ _ _ h => h) (by rfl) ?hvr4 ?restr4
      case hvr4 => (intro w' hb; go_simp; rw [KA.out w' hb]; rfl)
      simp only [Act.put, List.setIfInBounds_toArray, List.set_cons_zero, List.set_cons_succ]
      refine wpAnyF_take (i := 5) (v := ?vr5) (some 27) rfl rfl (by kernel_rfl) (by kernel_rfl) (by kernel_rfl) (fun _ _ _ h => h) (by rfl) ?hvr5 ?restr5
      case hvr5 => (intro w' hb; go_simp; try with_reducible rfl)
      simp only [Act.put, List.setIfInBounds_toArray, List.set_cons_zero, List.set_cons_succ]
      refine wpAnyF_take (i := 6) (v := ?vr6) (some 28) rfl rfl (by kernel_rfl) (by kernel_rfl) (by kernel_rfl) (fun _ _ _ h => h) (by rfl) ?hvr6 ?restr6
      case hvr6 => (intro w' hb; go_simp; try with_reducible rfl)
      simp only [Act.put, List.setIfInBounds_toArray, List.set_cons_zero, List.set_cons_succ]
      refine wpAnyF_take (i := 7) (v := ?vr7) (some 29) rfl rfl (by kernel_rfl) (by kernel_rfl) (by kernel_rfl) (fun _ _ _ h => h) (by rfl) ?hvr7 ?restr7
      case hvr7 => (intro w' hb; go_simp; try with_reducible rfl)
      simp only [Act.put, List.setIfInBounds_toArray, List.set_cons_zero, List.set_cons_succ]
      refine wpAnyF_take (i := 8) (v := ?vr8) (some 30) rfl rfl (by kernel_rfl) (by kernel_rfl) (by kernel_rfl) (fun _ _ _ h => h) (by rfl) ?hvr8 ?restr8
      case hvr8 => (intro w' hb; go_simp; rw [KB.out w' hb]; rfl)
      simp only [Act.put, List.setIfInBounds_toArray, List.set_cons_zero, List.set_cons_succ]
      refine wpAnyF_take (i := 9) (v := ?vr9) (some 31) rfl rfl (by kernel_rfl) (by kernel_rfl) (by kernel_rfl) (fun _ _ _ h => h) (by rfl) ?hvr9 ?restr9
      case hvr9 => (intro w' hb; go_simp; try with_reducible rfl)
      simp only [Act.put, List.setIfInBounds_toArray, List.set_cons_zero, List.set_cons_succ]
      refine wpAnyF_take (i := 10) (v := ?vr10) (some 32) rfl rfl (by kernel_rfl) (by kernel_rfl) (by kernel_rfl) (fun _ _ _ h => h) (by rfl) ?hvr10 ?restr10
      case hvr10 => (intro w' hb; go_simp; try with_reducible rfl)
      simp only [Act.put, List.setIfInBounds_toArray, List.set_cons_zero, List.set_cons_succ]
      refine wpAnyF_take (i := 11) (v := ?vr11) (some 33) rfl rfl (by kernel_rfl) (by kernel_rfl) (by kernel_rfl) (fun _ _ _ h => h) (by rfl) ?hvr11 ?restr11
      case hvr11 => (intro w' hb; go_simp; try with_reducible rfl)
      simp only [Act.put, List.setIfInBounds_toArray, List.set_cons_zero, List.set_cons_succ]
      refine wpAnyF_take (i := 12) (v := ?vr12) (some 34) rfl rfl (by kernel_rfl) (by kernel_rfl) (by kernel_rfl) (fun _ _ _ h => h) (by rfl) ?hvr12 ?restr12
      case hvr12 => (intro w' hb; go_simp; try with_reducible rfl)
      simp only [Act.put, List.setIfInBounds_toArray, List.set_cons_zero, List.set_cons_succ]
      refine wpAnyF_take (i := 13) (v := ?vr13) (some 35) rfl rfl (by kernel_rfl) (by kernel_rfl) (by kernel_rfl) (fun _ _ _ h => h) (by rfl) ?hvr13 ?restr13
      case hvr13 => (intro w' hb; go_simp; rw [KC.out w' hb]; rfl)
      simp only [Act.put, List.setIfInBounds_toArray, List.set_cons_zero, List.set_cons_succ]
      refine wpAnyF_take (i := 14) (v := ?vr14) (some 36) rfl rfl (by kernel_rfl) (by kernel_rfl) (by kernel_rfl) (fun _ _ _ h => h) (by rfl) ?hvr14 ?restr14
      case hvr14 => (intro w' hb; go_simp; try with_reducible rfl)
      simp only [Act.put, List.setIfInBounds_toArray, List.set_cons_zero, List.set_cons_succ]
      refine wpAnyF_alone (i := 15) rfl (by kernel_rfl) (by rfl) (fun K hK => ?_)
      go_simp
      have hb := (Below.refl w.heap.size wr.drew).alloc (B := w.heap.size) hwr.size (.cells #[.int .u8 ((xa ^^^ xb ^^^ xc : Nat) : Int)] 5)
      refine hK.out _ _ hb ?_
      clear hK K
      simp only [List.setIfInBounds_toArray, List.set_cons_zero, List.set_cons_succ]
      refine wpAnyF_alone (i := 16) rfl (by kernel_rfl) (by rfl) (fun K hK => ?_)
      refine wp_append_own _ _ _ 22 rfl w.heap.size 5 i0 (.int .u8 0) 1 1 Tryd.underlying22 hi hz0 hz1 hz2 rfl (by decide) _ _ _ rfl (hown.drew.alloc _) ⟨wr.heap.size, 0, none⟩ 1 1 [.int .u8 ((xa ^^^ xb ^^^ xc : Nat) : Int)] rfl rfl ?d3 ?d4 ?d5 ?d6 ?d7 ?_
      case d3 =>
        intro j u h
        rcases j with _ | j <;> simp at h <;> subst h <;> go_simp <;> rfl
      case d4 => simp [Value.oneCell']
      case d5 => simp [maxLen]; omega
      case d6 => omega
      case d7 => have := hwr.size; simp; omega
      intro v3 w3 hown3 hg3 _
      have hb := (Below.refl w.heap.size (wr.drew.alloc (.cells #[.int .u8 ((xa ^^^ xb ^^^ xc : Nat) : Int)] 5))).grown hg3 (by have := hwr.size; simp; omega) (fun k e => (hown.lt k e).1)
      refine hK.out _ _ hb ?_
      clear hK K
      simp only [List.setIfInBounds_toArray, List.set_cons_zero, List.set_cons_succ]
      refine wpAnyF_take (i := 17) (v := ?vr17) (some 8) rfl rfl (by kernel_rfl) (by kernel_rfl) (by kernel_rfl) (fun _ _ _ h => h) (by rfl) ?hvr17 ?restr17
      case hvr17 => (intro w' hb; go_simp; try with_reducible rfl)
      simp only [Act.put, List.setIfInBounds_toArray, List.set_cons_zero, List.set_cons_succ]
      refine wpAnyF_done (by kernel_rfl) ?_ _
      go_wp2
      go_roundw
      case rel => exact ⟨k + 1, l ++ [((xa ^^^ xb ^^^ xc : Nat) : Int)], by omega, by go_num, by simpa [vU8] using hown3, HW.out, Q2.out, (hwr.drew.alloc hwr.size _).trans hb⟩
      case measure => simp [intOf]; omega
    · obtain rfl : k = n := by omega
      have hrl : Reads .u8 wr _ l := reads_of_owns (by simpa [vU8] using hown) hl
      have OA := hid (fun w' (hb : Below wr.heap.size wr w') => of_any _ l w' (hrl.later hb) (H4.out _ (chain hwr hb)))
      have DA := (crcOf (A.take k)).isLt
      have DB := (crcOf (B.take k)).isLt
      have DC := (crcOf (C.take k)).isLt
      have x1 := i32_xor (crcOf (A.take k)).toNat (crcOf (B.take k)).toNat (by omega) (by omega)
      have hx : (crcOf (A.take k)).toNat ^^^ (crcOf (B.take k)).toNat < 2 ^ 16 := Nat.xor_lt_two_pow (n := 16) DA DB
      have x2 := i32_xor ((crcOf (A.take k)).toNat ^^^ (crcOf (B.take k)).toNat) (crcOf (C.take k)).toNat (by omega) (by omega)
      rw [show ((crcOf (A.take k)).toNat ^^^ (crcOf (B.take k)).toNat) ^^^ (crcOf (C.take k)).toNat = (crcOf l).toNat by rw [hcrc, BitVec.toNat_xor, BitVec.toNat_xor]] at x2
      clear hcrc hx DA DB DC hrl hown hl hB
      generalize (crcOf (A.take k)).toNat ^^^ (crcOf (B.take k)).toNat = DD at *
      generalize (crcOf (A.take k)).toNat = da at *
      generalize (crcOf (B.take k)).toNat = db at *
      generalize (crcOf (C.take k)).toNat = dc at *
      generalize (crcOf l).toNat = d at *
      go_wp2_with fail
      refine wp_region_B' (n := 21) (l := #[false, false, false, false, false, false, false, false, false, false, false, false, false, false, false, false, false, false, false, false, false]) (by kernel_rfl) (by kernel_rfl) (by kernel_rfl) ?_
      refine wpAnyB_take (i := 0) (v := ?vs0) (some 39) rfl rfl (by kernel_rfl) (by kernel_rfl) (by kernel_rfl) (fun _ _ _ h => h) (by rfl) ?hvs0 ?rests0
      case hvs0 => (intro w' hb; go_simp; try with_reducible rfl)
      simp only [Act.put, List.setIfInBounds_toArray, List.set_cons_zero, List.set_cons_succ]
      refine wpAnyB_take (i := 2) (v := ?vs2) (some 41) rfl rfl (by kernel_rfl) (by kernel_rfl) (by kernel_rfl) (fun _ _ _ h => h) (by rfl) ?hvs2 ?rests2
      case hvs2 => (intro w' hb; go_simp; try with_reducible rfl)
      simp only [Act.put, List.setIfInBounds_toArray, List.set_cons_zero, List.set_cons_succ]
      refine wpAnyB_take (i := 3) (v := ?vs3) (some 42) rfl rfl (by kernel_rfl) (by kernel_rfl) (by kernel_rfl) (fun _ _ _ h => h) (by rfl) ?hvs3 ?rests3
      case hvs3 => (intro w' hb; go_simp; try with_reducible rfl)
      simp only [Act.put, List.setIfInBounds_toArray, List.set_cons_zero, List.set_cons_succ]
      refine wpAnyB_take (i := 4) (v := ?vs4) (some 43) rfl rfl (by kernel_rfl) (by kernel_rfl) (by kernel_rfl) (fun _ _ _ h => h) (by rfl) ?hvs4 ?rests4
      case hvs4 => (intro w' hb; go_simp; try with_reducible rfl)
      simp only [Act.put, List.setIfInBounds_toArray, List.set_cons_zero, List.set_cons_succ]
      refine wpAnyB_take (i := 6) (v := ?vs6) (some 45) rfl rfl (by kernel_rfl) (by kernel_rfl) (by kernel_rfl) (fun _ _ _ h => h) (by rfl) ?hvs6 ?rests6
      case hvs6 => (intro w' hb; go_simp; try with_reducible rfl)
      simp only [Act.put, List.setIfInBounds_toArray, List.set_cons_zero, List.set_cons_succ]
      refine wpAnyB_take (i := 7) (v := ?vs7) (some 46) rfl rfl (by kernel_rfl) (by kernel_rfl) (by kernel_rfl) (fun _ _ _ h => h) (by rfl) ?hvs7 ?rests7
      case hvs7 => (intro w' hb; go_simp; try with_reducible rfl)
      simp only [Act.put, List.setIfInBounds_toArray, List.set_cons_zero, List.set_cons_succ]
      refine wpAnyB_take (i := 8) (v := ?vs8) (some 47) rfl rfl (by kernel_rfl) (by kernel_rfl) (by kernel_rfl) (fun _ _ _ h => h) (by rfl) ?hvs8 ?rests8
      case hvs8 => (intro w' hb; go_simp; try with_reducible rfl)
      simp only [Act.put, List.setIfInBounds_toArray, List.set_cons_zero, List.set_cons_succ]
      refine wpAnyB_take (i := 11) (v := ?vs11) (some 50) rfl rfl (by kernel_rfl) (by kernel_rfl) (by kernel_rfl) (fun _ _ _ h => h) (by rfl) ?hvs11 ?rests11
      case hvs11 => (intro w' hb; go_simp; try with_reducible rfl)
      simp only [Act.put, List.setIfInBounds_toArray, List.set_cons_zero, List.set_cons_succ]
      refine wpAnyB_take (i := 12) (v := ?vs12) (some 51) rfl rfl (by kernel_rfl) (by kernel_rfl) (by kernel_rfl) (fun _ _ _ h => h) (by rfl) ?hvs12 ?rests12
      case hvs12 => (intro w' hb; go_simp; try with_reducible rfl)
      simp only [Act.put, List.setIfInBounds_toArray, List.set_cons_zero, List.set_cons_succ]
      refine wpAnyB_take (i := 13) (v := ?vs13) (some 52) rfl rfl (by kernel_rfl) (by kernel_rfl) (by kernel_rfl) (fun _ _ _ h => h) (by rfl) ?hvs13 ?rests13
      case hvs13 => (intro w' hb; go_simp; try with_reducible rfl)
      simp only [Act.put, List.setIfInBounds_toArray, List.set_cons_zero, List.set_cons_succ]
      refine wpAnyB_alone (i := 1) rfl (by kernel_rfl) (by rfl) (fun K hK => ?_)
      go_simp
      refine (OA.out _ (Below.refl wr.heap.size wr).drew).mono ?_
      rintro e w3 ⟨rfl, hb⟩
      have h3 : Below wr.heap.size wr w3 := (Below.refl wr.heap.size wr).drew.trans (hb.mono (Nat.le_refl _))
      refine hK.out _ _ hb ?_
      clear hK K
      simp only [List.setIfInBounds_toArray, List.set_cons_zero, List.set_cons_succ]
      refine wpAnyB_alone (i := 5) rfl (by kernel_rfl) (by rfl) (fun K hK => ?_)
      go_simp
      refine (T0.out _ (chain hwr h3)).mono ?_
      rintro e w3 ⟨rfl, hb⟩
      replace h3 := chain h3 hb
      refine hK.out _ _ hb ?_
      clear hK K
      simp only [List.setIfInBounds_toArray, List.set_cons_zero, List.set_cons_succ]
      refine wpAnyB_alone (i := 9) rfl (by kernel_rfl) (by rfl) (fun K hK => ?_)
      go_simp
      refine (T1.out _ (chain hwr h3)).mono ?_
      rintro e w3 ⟨rfl, hb⟩
      replace h3 := chain h3 hb
      refine hK.out _ _ hb ?_
      clear hK K
      simp only [List.setIfInBounds_toArray, List.set_cons_zero, List.set_cons_succ]
      refine wpAnyB_take (i := 10) (v := ?vs10) (some 49) rfl rfl (by kernel_rfl) (by kernel_rfl) (by kernel_rfl) (fun _ _ _ h => h) (by rfl) ?hvs10 ?rests10
      case hvs10 => (intro w' hb; go_simp; try with_reducible rfl)
      simp only [Act.put, List.setIfInBounds_toArray, List.set_cons_zero, List.set_cons_succ]
      refine wpAnyB_alone (i := 14) rfl (by kernel_rfl) (by rfl) (fun K hK => ?_)
      go_simp
      refine (T2.out _ (chain hwr h3)).mono ?_
      rintro e w3 ⟨rfl, hb⟩
      replace h3 := chain h3 hb
      refine hK.out _ _ hb ?_
      clear hK K
      simp only [List.setIfInBounds_toArray, List.set_cons_zero, List.set_cons_succ]
      refine wpAnyB_take (i := 15) (v := ?vs15) (some 54) rfl rfl (by kernel_rfl) (by kernel_rfl) (by kernel_rfl) (fun _ _ _ h => h) (by rfl) ?hvs15 ?rests15
      case hvs15 => (intro w' hb; go_simp; try with_reducible rfl)
      simp only [Act.put, List.setIfInBounds_toArray, List.set_cons_zero, List.set_cons_succ]
      refine wpAnyB_take (i := 16) (v := ?vs16) (some 55) rfl rfl (by kernel_rfl) (by kernel_rfl) (by kernel_rfl) (fun _ _ _ h => h) (by rfl) ?hvs16 ?rests16
      case hvs16 => (intro w' hb; go_simp; try with_reducible rfl)
      simp only [Act.put, List.setIfInBounds_toArray, List.set_cons_zero, List.set_cons_succ]
      refine wpAnyB_take (i := 17) (v := ?vs17) (some 56) rfl rfl (by kernel_rfl) (by kernel_rfl) (by kernel_rfl) (fun _ _ _ h => h) (by rfl) ?hvs17 ?rests17
      case hvs17 => (intro w' hb; go_simp; try with_reducible rfl)
      simp only [Act.put, List.setIfInBounds_toArray, List.set_cons_zero, List.set_cons_succ]
      refine wpAnyB_alone (i := 18) rfl (by kernel_rfl) (by rfl) (fun K hK => ?_)
      go_simp
      refine (awake11 _ (H4.out _ (chain hwr h3))).mono ?_
      rintro e w3 ⟨rfl, hb⟩
      replace h3 := chain h3 hb
      refine hK.out _ _ hb ?_
      clear hK K
      simp only [List.setIfInBounds_toArray, List.set_cons_zero, List.set_cons_succ]
      refine wpAnyB_take (i := 19) (v := ?vs19) (some 58) rfl rfl (by kernel_rfl) (by kernel_rfl) (by kernel_rfl) (fun _ _ _ h => h) (by rfl) ?hvs19 ?rests19
      case hvs19 => (intro w' hb; go_simp; try with_reducible rfl)
      simp only [Act.put, List.setIfInBounds_toArray, List.set_cons_zero, List.set_cons_succ]
      refine wpAnyB_take (i := 20) (v := ?vs20) (some 6) rfl rfl (by kernel_rfl) (by kernel_rfl) (by kernel_rfl) (fun _ _ _ h => h) (by rfl) ?hvs20 ?rests20
      case hvs20 => (intro w' hb; go_simp; try with_reducible rfl)
      simp only [Act.put, List.setIfInBounds_toArray, List.set_cons_zero, List.set_cons_succ]
      refine wpAnyB_done (by kernel_rfl) ?_ _
      go_wp2
      go_ret
      exact ⟨rfl, chain hwr h3⟩
end Go.Proofs.YtecbfegohdllbaaDoor
