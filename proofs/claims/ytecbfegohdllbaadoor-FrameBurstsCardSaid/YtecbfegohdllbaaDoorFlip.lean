/- The reference's Flip (layer 12): what a burst makes of the sum of layer 11. -/
import Derived.Test.YtecbfegohdllbaaDoorBurst
namespace Go.Proofs.YtecbfegohdllbaaDoor
open Go.RowKit
set_option linter.unusedVariables false
set_option linter.unusedSimpArgs false
theorem flip_bit : ∀ x : Fin 256, ∀ r : Fin 8, (x.val / 2 ^ (7 - r.val) % 2 = 1 → 2 ^ (7 - r.val) ≤ x.val ∧ x.val - 2 ^ (7 - r.val) = x.val ^^^ (128 >>> r.val)) ∧ (x.val / 2 ^ (7 - r.val) % 2 ≠ 1 → x.val + 2 ^ (7 - r.val) = x.val ^^^ (128 >>> r.val)) ∧ x.val ^^^ (128 >>> r.val) < 256 := by decide +kernel
/-- what a burst leaves: the numbers, and what they say of the sum -/
def FlipOK (L l : List Int) (y : BitVec 16) (N : Nat) : Prop := l.length = L.length ∧ (∀ x ∈ l, (Lit.int .u8 x).wf = true) ∧ crcOf l = crcOf L ^^^ it N y ∧ (y = 0#16 → l = L)
theorem flip_more {L l : List Int} {y : BitVec 16} {T : Int} {k q r : Nat} {x : Nat} (h : FlipOK L l y (8 * (L.length : Int) - T).toNat) (hlow : ∀ j, j < 16 - k → y.getLsbD j = false) (hk : k < 16)
    (hq : q < L.length) (hr : r < 8) (hT : T + (k : Int) = ((8 * q + r : Nat) : Int)) (hx : l[q]? = some (x : Int)) (hx' : x < 256) :
    FlipOK L (l.set q ((x ^^^ (128 >>> r) : Nat) : Int)) (y ^^^ BitVec.ofNat 16 (32768 >>> k)) (8 * (L.length : Int) - T).toNat ∧ (∀ j, j < 16 - (k + 1) → (y ^^^ BitVec.ofNat 16 (32768 >>> k)).getLsbD j = false) := by
  obtain ⟨h1, h2, h3, h4⟩ := h
  have hb := ((flip_bit ⟨x, hx'⟩ ⟨r, hr⟩).2).2
  simp only at hb
  have hql : q < l.length := by omega
  refine ⟨⟨by simpa using h1, ?_, ?_, ?_⟩, ?_⟩
  · intro z hz
    rcases List.mem_or_eq_of_mem_set hz with hz | rfl
    · exact h2 z hz
    · apply u8_wf <;> omega
  · show crcFrom 65535#16 _ = _
    rw [crc_flip 65535#16 l q r hql hr x (by rw [List.getElem?_eq_getElem hql] at hx; exact Option.some.inj hx), show crcFrom 65535#16 l = crcOf l from rfl, h3, it_xor, BitVec.xor_assoc]
    congr 2
    rw [h1, show (8 * (L.length : Int) - T).toNat = (8 * L.length - (8 * q + r)) + k by omega, it_add, win_bit ⟨k, hk⟩]
  · intro e0
    have hyt : (y ^^^ BitVec.ofNat 16 (32768 >>> k)).getLsbD (15 - k) = true := by
      rw [BitVec.getLsbD_xor, hlow (15 - k) (by omega), win_top ⟨k, hk⟩]; rfl
    rw [e0] at hyt
    simp at hyt
  · intro j hj
    rw [BitVec.getLsbD_xor, hlow j (by omega), win_low ⟨k, hk⟩ ⟨j, by omega⟩ (by show j < 15 - k; omega)]; rfl
set_option maxRecDepth 20000 in
set_option maxHeartbeats 1000000 in
theorem rflip_any (v : Value) (L : List Int) (T X : Int) (w : World) (hr : Reads .u8 w v L) (h0 : 0 < L.length) (hL : L.length ≤ 1000000) (hT : -9223372036854775808 ≤ T ∧ T ≤ 9223372036854775807) (hX : 0 ≤ X ∧ X ≤ 65535) :
    Calls Tryd.prog 34 #[v, .int .i64 T, .int .u16 X] w fun e w' => ∃ v' l y, e = .returned v' ∧ Below w.heap.size w w' ∧ w'.ownsRow w.heap.size 5 1 v' L.length (vU8 l) ∧ FlipOK L l y (8 * (L.length : Int) - T).toNat := by
  obtain ⟨i0, hi, hz0, hz1, hz2⟩ := info_parts Tryd.infoU8
  have WF := hid (Reads.wf hr)
  have R := hid hr
  obtain ⟨a, c, rfl, -, hm, -⟩ := id hr
  have HL := hid hL
  have H0 := hid h0
  clear hr hL hm h0
  obtain ⟨n, hn⟩ : ∃ n, n = L.length := ⟨_, rfl⟩
  have HN := hid hn
  rw [← hn] at HL H0 ⊢
  clear hn
  have e8 : wrap64 (8 * (n : Int)) = 8 * (n : Int) := by have := HL.out; unfold wrap64; omega
  go_enter Tryd.func34, Tryd.ntmps34
  go_wp2_with (at_builtin; refine wpList_append_reads rfl _ _ 22 rfl w.heap.size 5 i0 (.int .u8 0) .u8 1 Tryd.underlying22 hi hz0 hz1 hz2 rfl _ _ _ rfl (ownsRow_nil _ _ _) (.slice a n c) L rfl ?c1 ?c2 ?c3 ?c4 ?_)
  case c1 => have := R.out; rw [← HN.out] at this; exact this
  case c2 => clear e8; have := HL.out; have := HN.out; simp [maxLen]; omega
  case c3 => clear e8; have := HL.out; have := HN.out; omega
  case c4 => exact Nat.le_refl _
  intro v1 w1 hown1 hg1
  have hb1 : Below w.heap.size w w1 := (Below.refl w.heap.size w).grown hg1 (Nat.le_refl _) (fun k e => by simp [Value.ownBlock] at e)
  clear hg1
  rw [← HN.out] at hown1
  obtain ⟨gb, cap, hgb, rfl, hcap⟩ : ∃ gb cap, w.heap.size ≤ gb ∧ v1 = .slice (some ⟨gb, 0, none⟩) n cap ∧ n ≤ cap := by
    obtain ⟨_, h⟩ := id hown1
    rcases h with ⟨_, h⟩ | ⟨g, cap, cur, h1, h2, h3, h4, _⟩
    · have := H0.out; omega
    · exact ⟨g, cap, h2, h1, h4⟩
  go_wp2_with fail
  go_loopw [8, 9] (fun x i wr => ∃ (k : Nat) (l : List Int) (y : BitVec 16) (xv : Int), k ≤ 16 ∧ i = .int .i64 k ∧ x = .int .i64 xv ∧ 0 ≤ xv ∧ xv ≤ 65535 ∧ wr.ownsRow w.heap.size 5 1 (.slice (some ⟨gb, 0, none⟩) n cap) n (vU8 l) ∧
    FlipOK L l y (8 * (n : Int) - T).toNat ∧ (∀ j, j < 16 - k → y.getLsbD j = false) ∧ Below w.heap.size w wr) (fun _ i _ => 16 - (intOf i).toNat)
  case atStart => exact ⟨0, L, 0#16, X, by omega, rfl, rfl, hX.1, hX.2, hown1, ⟨rfl, WF.out, by rw [it_zero, BitVec.xor_zero], fun _ => rfl⟩, by simp, hb1⟩
  case round =>
    obtain ⟨k, l, y, xv, hk, rfl, rfl, hx0, hx1, hown, hF, hy, hwr⟩ := hrel
    have HF := hid hF
    have HY := hid hy
    clear hF hy hown1 hb1
    by_cases hlt : k < 16
    · have hlt' : (k : Int) < 16 := by omega
      have x1 : wrap64 (2 * xv) = 2 * xv := by unfold wrap64; omega
      have x2 : (2 * xv).tmod 65536 = (2 * xv) % 65536 := Int.tmod_eq_emod_of_nonneg (by omega)
      have x3 : 0 ≤ (2 * xv) % 65536 ∧ (2 * xv) % 65536 ≤ 65535 := by omega
      generalize (2 * xv) % 65536 = xn at *
      obtain ⟨x4, x5⟩ := x3
      have X4 := hid x4
      have X5 := hid x5
      clear x4 x5 hx1
      by_cases c1 : 8 * (n : Int) < T
      · go_wp2_with fail
        clear x1 e8; exact ⟨⟨k + 1, l, y, xn, by omega, by go_num, rfl, X4.out, X5.out, hown, HF.out, fun j hj => HY.out j (by omega), hwr⟩, by simp [intOf]; omega⟩
      by_cases c2 : T < -16
      · go_wp2_with fail
        clear x1 e8; exact ⟨⟨k + 1, l, y, xn, by omega, by go_num, rfl, X4.out, X5.out, hown, HF.out, fun j hj => HY.out j (by omega), hwr⟩, by simp [intOf]; omega⟩
      have e9 : wrap64 (T + (k : Int)) = T + (k : Int) := by clear e8 x1; have := HL.out; unfold wrap64; omega
      by_cases c3 : 32768 ≤ xv
      case neg =>
        go_wp2_with fail
        clear e9
        clear x1 e8; exact ⟨⟨k + 1, l, y, xn, by omega, by go_num, rfl, X4.out, X5.out, hown, HF.out, fun j hj => HY.out j (by omega), hwr⟩, by simp [intOf]; omega⟩
      by_cases c4 : T + (k : Int) < 0
      · go_wp2_with fail
        clear e9
        clear x1 e8; exact ⟨⟨k + 1, l, y, xn, by omega, by go_num, rfl, X4.out, X5.out, hown, HF.out, fun j hj => HY.out j (by omega), hwr⟩, by simp [intOf]; omega⟩
      by_cases c5 : 8 * (n : Int) ≤ T + (k : Int)
      · go_wp2_with fail
        clear e9
        clear x1 e8; exact ⟨⟨k + 1, l, y, xn, by omega, by go_num, rfl, X4.out, X5.out, hown, HF.out, fun j hj => HY.out j (by omega), hwr⟩, by simp [intOf]; omega⟩
      obtain ⟨K, hK⟩ : ∃ K : Nat, T + (k : Int) = (K : Int) := by clear e8 e9 x1; exact ⟨(T + (k : Int)).toNat, by omega⟩
      have hKn : K < 8 * n := by clear e8 e9 x1; omega
      obtain ⟨q, hq⟩ : ∃ q, q = K / 8 := ⟨_, rfl⟩
      obtain ⟨r, hr⟩ : ∃ r, r = K % 8 := ⟨_, rfl⟩
      have hqn : q < n := by clear e8 e9 x1; omega
      have hr8 : r < 8 := by clear e8 e9 x1; omega
      have hTK := hid (show T + (k : Int) = ((8 * q + r : Nat) : Int) by clear e8 e9 x1; omega)
      have q2 : (T + (k : Int)) % 8 = (r : Int) := by clear e8 e9 x1; omega
      have q2' : (T + (k : Int)).tmod 8 = (r : Int) := by rw [Int.tmod_eq_emod_of_nonneg (by clear e8 e9 x1; omega)]; exact q2
      have HK := hid hK
      have HQ := hid hq
      have HR := hid hr
      clear hK hq hr
      go_wp2_with fail
      clear x1 e8
      go_loopw [12, 13] (fun m i wq => ∃ j : Nat, r ≤ j ∧ j ≤ 7 ∧ i = .int .i64 j ∧ m = .int .u8 (2 ^ (j - r) : Nat) ∧ wq = wr) (fun _ i _ => 7 - (intOf i).toNat)
      case atStart => exact ⟨r, Nat.le_refl _, by omega, rfl, by rw [Nat.sub_self]; rfl, rfl⟩
      case round =>
        obtain ⟨j, hj1, hj2, rfl, rfl, rfl⟩ := hrel
        by_cases hlt7 : j < 7
        · have hj' : (j : Int) < 7 := by omega
          have hp : 2 ^ (j - r) ≤ 64 := Nat.le_trans (Nat.pow_le_pow_right (by decide) (show j - r ≤ 6 by omega)) (by decide)
          have hn : 2 ^ (j + 1 - r) = 2 * 2 ^ (j - r) := by rw [show j + 1 - r = (j - r) + 1 by omega, Nat.pow_succ, Nat.mul_comm]
          have HN2 := hid hn
          clear hn
          generalize 2 ^ (j - r) = m at *
          have hm : IntKind.u8.wrap (2 * (m : Int)) = 2 * (m : Int) := by rw [IntKind.wrap_u8']; omega
          go_wp2_with fail
          exact ⟨⟨j + 1, by omega, by omega, by go_num, by rw [HN2.out]; simp, trivial⟩, by simp [intOf]; omega⟩
        · obtain rfl : j = 7 := by omega
          have hFF := HF.out
          have hll : l.length = n := by rw [hFF.1, HN.out]
          have hql : q < l.length := by omega
          have hx0 := bd_u8 (hFF.2.1 (l[q]'hql) (List.getElem_mem hql))
          obtain ⟨x, hx⟩ : ∃ x : Nat, l[q]'hql = (x : Int) := ⟨(l[q]'hql).toNat, by omega⟩
          have hx' : x < 256 := by omega
          have hlx : l[q]? = some (x : Int) := by rw [List.getElem?_eq_getElem hql, hx]
          have FM := hid (flip_more (T := T) (k := k) (q := q) (r := r) (x := x) (by rw [← HN.out]; exact hFF) HY.out hlt (by rw [← HN.out]; exact hqn) hr8 hTK.out hlx hx')
          rw [← HN.out] at FM
          have BT := hid (rbit_any (.slice (some ⟨gb, 0, none⟩) n cap) l K wr (reads_of_owns hown hFF.2.1) (by rw [hll]; exact hKn) (by rw [hll]; exact HL.out))
          have hbl : bitL l K = ((x / 2 ^ (7 - r) % 2 : Nat) : Int) := by
            unfold bitL
            rw [← HQ.out, ← HR.out, List.getD_eq_getElem?_getD, hlx]
            simp
          rw [hbl] at BT
          have hc : wr.cell? ⟨gb, q, none⟩ = some (.int .u8 (x : Int)) := by
            rw [hown.cellAt q (by omega), vU8, List.getElem?_map, hlx]; rfl
          have hf := hown.frozenAt q
          have q1 : (K : Int) / 8 = (q : Int) := by have := HQ.out; omega
          have q3 : wrap64 (q : Int) = (q : Int) := by have := HL.out; unfold wrap64; omega
          have hqn' : (q : Int) < (n : Int) := by clear q3; omega
          have FB := flip_bit ⟨x, hx'⟩ ⟨r, hr8⟩
          simp only at FB
          clear hx0 hx hlx hql hll hFF
          go_wp2_with fail
          rw [HK.out]
          clear e9
          refine BT.out.mono ?_
          rintro e w2 ⟨rfl, rfl⟩
          clear BT
          by_cases hbit : x / 2 ^ (7 - r) % 2 = 1
          · rw [hbit]
            have hfl : IntKind.u8.wrap ((x : Int) - (2 ^ (7 - r) : Nat)) = ((x ^^^ (128 >>> r) : Nat) : Int) := by
              clear q3
              have h1 := FB.1 hbit
              rw [IntKind.wrap_u8', ← h1.2]; omega
            clear FB hbit
            generalize 2 ^ (7 - r) = m at *
            go_wp2_with fail
            have st := (hown.stored q (.int .u8 ((x ^^^ (128 >>> r) : Nat) : Int))).1
            clear q3
            exact ⟨⟨k + 1, l.set q ((x ^^^ (128 >>> r) : Nat) : Int), _, xn, by omega, by go_num, rfl, X4.out, X5.out, by simpa [vU8, List.map_set] using st, FM.out.1, FM.out.2, hwr.setCell (p := ⟨gb, q, none⟩) hgb _⟩, by simp [intOf]; omega⟩
          · rw [show x / 2 ^ (7 - r) % 2 = 0 by omega]
            have hfl : IntKind.u8.wrap ((x : Int) + (2 ^ (7 - r) : Nat)) = ((x ^^^ (128 >>> r) : Nat) : Int) := by
              clear q3
              have h1 := FB.2.1 hbit
              have h2 := FB.2.2
              rw [IntKind.wrap_u8', ← h1]; omega
            clear FB hbit
            generalize 2 ^ (7 - r) = m at *
            go_wp2_with fail
            have st := (hown.stored q (.int .u8 ((x ^^^ (128 >>> r) : Nat) : Int))).1
            clear q3
            exact ⟨⟨k + 1, l.set q ((x ^^^ (128 >>> r) : Nat) : Int), _, xn, by omega, by go_num, rfl, X4.out, X5.out, by simpa [vU8, List.map_set] using st, FM.out.1, FM.out.2, hwr.setCell (p := ⟨gb, q, none⟩) hgb _⟩, by simp [intOf]; omega⟩
    · obtain rfl : k = 16 := by omega
      go_wp2_with fail
      go_ret
      exact ⟨_, l, y, rfl, hwr, hown, HF.out⟩
end Go.Proofs.YtecbfegohdllbaaDoor
