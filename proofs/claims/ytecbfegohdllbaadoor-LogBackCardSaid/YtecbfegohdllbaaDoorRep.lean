/- Layer 36 (frame): reports as lists of eleven numbers, frames as lists of 32 bytes: plain facts. -/
import Derived.Test.YtecbfegohdllbaaDoorFrameRPut
import Derived.Test.YtecbfegohdllbaaDoorPackG
namespace Go.Proofs.YtecbfegohdllbaaDoor
open Go.RowKit
set_option linter.unusedVariables false
set_option linter.unusedSimpArgs false
def rkinds : List IntKind := [.i64, .i64, .i64, .i64, .i32, .i32, .i32, .i32, .i32, .i32, .i32]
def rcells (Z : List Int) : Array Value := (List.zipWith Value.int rkinds Z).toArray
def zeroR : List Int := [0, 0, 0, 0, 0, 0, 0, 0, 0, 0, 0]
/-- numbers as a report has them -/
def RepWf (Z : List Int) : Prop := Z.length = 11 ∧ ∀ (i : Nat) (k : IntKind) (z : Int), rkinds[i]? = some k → Z[i]? = some z → (Lit.int k z).wf = true
def RightL : List Int → Prop
  | [f, s, u, g, q0, q1, q2, q3, x0, x1, x2] => Right f s u g x0 x1 x2
  | _ => False
def bodyL : List Int → List Int
  | [f, s, u, g, q0, q1, q2, q3, x0, x1, x2] => ([1, f % 256] ++ b2 s ++ b2 u ++ b2 g ++ fourI q0 ++ fourI q1 ++ fourI q2 ++ fourI q3 ++ b2 x0 ++ b2 x1 ++ b2 x2)
  | _ => []
def frameL (Z : List Int) : List Int := sealL (bodyL Z)
def getR (L : List Int) : List Int :=
  [L.getD 1 0, 256 * L.getD 2 0 + L.getD 3 0, 256 * L.getD 4 0 + L.getD 5 0, 256 * L.getD 6 0 + L.getD 7 0,
   lowI (((L.getD 8 0 * 256 + L.getD 9 0) * 256 + L.getD 10 0) * 256 + L.getD 11 0), lowI (((L.getD 12 0 * 256 + L.getD 13 0) * 256 + L.getD 14 0) * 256 + L.getD 15 0),
   lowI (((L.getD 16 0 * 256 + L.getD 17 0) * 256 + L.getD 18 0) * 256 + L.getD 19 0), lowI (((L.getD 20 0 * 256 + L.getD 21 0) * 256 + L.getD 22 0) * 256 + L.getD 23 0),
   halfI (256 * L.getD 24 0 + L.getD 25 0), halfI (256 * L.getD 26 0 + L.getD 27 0), halfI (256 * L.getD 28 0 + L.getD 29 0)]
/-- what is wrong with bytes as a frame -/
def getE (L : List Int) : Int :=
  if L.length < 32 then 4 else if 32 < L.length then 5 else if L ≠ sealL (L.take 30) then 7 else if L.getD 0 0 ≠ 1 ∨ 15 < L.getD 1 0 then 3 else 0
/-- what is got -/
def gotR (L : List Int) : List Int := if getE L = 0 then getR L else zeroR
theorem eleven_list (Z : List Int) (h : Z.length = 11) : ∃ f s u g q0 q1 q2 q3 x0 x1 x2, Z = [f, s, u, g, q0, q1, q2, q3, x0, x1, x2] := by
  match Z, h with
  | [f, s, u, g, q0, q1, q2, q3, x0, x1, x2], _ => exact ⟨f, s, u, g, q0, q1, q2, q3, x0, x1, x2, rfl⟩
structure RepBd (f s u g q0 q1 q2 q3 x0 x1 x2 : Int) : Prop where
  f : -9223372036854775808 ≤ f ∧ f ≤ 9223372036854775807
  s : -9223372036854775808 ≤ s ∧ s ≤ 9223372036854775807
  u : -9223372036854775808 ≤ u ∧ u ≤ 9223372036854775807
  g : -9223372036854775808 ≤ g ∧ g ≤ 9223372036854775807
  q0 : -2147483648 ≤ q0 ∧ q0 ≤ 2147483647
  q1 : -2147483648 ≤ q1 ∧ q1 ≤ 2147483647
  q2 : -2147483648 ≤ q2 ∧ q2 ≤ 2147483647
  q3 : -2147483648 ≤ q3 ∧ q3 ≤ 2147483647
  x0 : -2147483648 ≤ x0 ∧ x0 ≤ 2147483647
  x1 : -2147483648 ≤ x1 ∧ x1 ≤ 2147483647
  x2 : -2147483648 ≤ x2 ∧ x2 ≤ 2147483647
theorem RepWf.bd {f s u g q0 q1 q2 q3 x0 x1 x2 : Int} (h : RepWf [f, s, u, g, q0, q1, q2, q3, x0, x1, x2]) : RepBd f s u g q0 q1 q2 q3 x0 x1 x2 :=
  ⟨bd_i64 (h.2 0 _ _ rfl rfl), bd_i64 (h.2 1 _ _ rfl rfl), bd_i64 (h.2 2 _ _ rfl rfl), bd_i64 (h.2 3 _ _ rfl rfl), bd_i32 (h.2 4 _ _ rfl rfl), bd_i32 (h.2 5 _ _ rfl rfl), bd_i32 (h.2 6 _ _ rfl rfl), bd_i32 (h.2 7 _ _ rfl rfl), bd_i32 (h.2 8 _ _ rfl rfl), bd_i32 (h.2 9 _ _ rfl rfl), bd_i32 (h.2 10 _ _ rfl rfl)⟩
theorem wf_i32 {x : Int} (h : -2147483648 ≤ x ∧ x ≤ 2147483647) : (Lit.int .i32 x).wf = true := by
  simp [Lit.wf, IntKind.min, IntKind.max, IntKind.signed, IntKind.bits]; omega
theorem RepBd.wf {f s u g q0 q1 q2 q3 x0 x1 x2 : Int} (h : RepBd f s u g q0 q1 q2 q3 x0 x1 x2) : RepWf [f, s, u, g, q0, q1, q2, q3, x0, x1, x2] := by
  refine ⟨rfl, ?_⟩
  intro i k z hk hz
  rcases i with _ | _ | _ | _ | _ | _ | _ | _ | _ | _ | _ | i <;> simp [rkinds] at hk hz <;> subst hk <;> subst hz
  · exact i64_wf h.f
  · exact i64_wf h.s
  · exact i64_wf h.u
  · exact i64_wf h.g
  · exact wf_i32 h.q0
  · exact wf_i32 h.q1
  · exact wf_i32 h.q2
  · exact wf_i32 h.q3
  · exact wf_i32 h.x0
  · exact wf_i32 h.x1
  · exact wf_i32 h.x2
theorem rcells_size (Z : List Int) (h : Z.length = 11) : (rcells Z).size = 11 := by
  obtain ⟨f, s, u, g, q0, q1, q2, q3, x0, x1, x2, rfl⟩ := eleven_list Z h; rfl
theorem rcells_one (Z : List Int) : (rcells Z).all (·.oneCell') = true := by
  rw [Array.all_eq_true_iff_forall_mem]
  intro x hx
  simp only [rcells, List.mem_toArray] at hx
  obtain ⟨i, hi⟩ := List.getElem?_of_mem hx
  rw [List.getElem?_zipWith] at hi
  revert hi
  cases rkinds[i]? <;> cases Z[i]? <;> simp
  rintro rfl; rfl
theorem bodyL_len (Z : List Int) (h : Z.length = 11) : (bodyL Z).length = 30 := by
  obtain ⟨f, s, u, g, q0, q1, q2, q3, x0, x1, x2, rfl⟩ := eleven_list Z h; simp [bodyL, b2, fourI]
theorem frameL_len (Z : List Int) (h : Z.length = 11) : (frameL Z).length = 32 := by
  rw [frameL, sealN_len, bodyL_len Z h]
theorem bodyL_wf (Z : List Int) (h : Z.length = 11) : ∀ y ∈ bodyL Z, (Lit.int .u8 y).wf = true := by
  obtain ⟨f, s, u, g, q0, q1, q2, q3, x0, x1, x2, rfl⟩ := eleven_list Z h
  exact rframe_wf f s u g q0 q1 q2 q3 x0 x1 x2
theorem frameL_wf (Z : List Int) (h : Z.length = 11) : ∀ y ∈ frameL Z, (Lit.int .u8 y).wf = true := sealL_wf (bodyL_wf Z h)
theorem b2_two {a b : Int} (ha : 0 ≤ a ∧ a ≤ 255) (hb : 0 ≤ b ∧ b ≤ 255) : b2 (256 * a + b) = [a, b] := by
  have e1 : (256 * a + b) / 256 % 256 = a := by omega
  have e2 : (256 * a + b) % 256 = b := by omega
  rw [b2, e1, e2]
theorem b2_half {a b : Int} (ha : 0 ≤ a ∧ a ≤ 255) (hb : 0 ≤ b ∧ b ≤ 255) : b2 (halfI (256 * a + b)) = [a, b] := by rw [b2, two_hi ha hb, two_lo ha hb]
theorem four_low {a b c d : Int} (ha : 0 ≤ a ∧ a ≤ 255) (hb : 0 ≤ b ∧ b ≤ 255) (hc : 0 ≤ c ∧ c ≤ 255) (hd : 0 ≤ d ∧ d ≤ 255) : fourI (lowI (((a * 256 + b) * 256 + c) * 256 + d)) = [a, b, c, d] := by
  have e1 : lowI (((a * 256 + b) * 256 + c) * 256 + d) / 16777216 % 256 = a := by unfold lowI; omega
  have e2 : lowI (((a * 256 + b) * 256 + c) * 256 + d) / 65536 % 256 = b := by unfold lowI; omega
  have e3 : lowI (((a * 256 + b) * 256 + c) * 256 + d) / 256 % 256 = c := by unfold lowI; omega
  have e4 : lowI (((a * 256 + b) * 256 + c) * 256 + d) % 256 = d := by unfold lowI; omega
  rw [fourI, e1, e2, e3, e4]
theorem low_four {x : Int} (h : -2147483648 ≤ x ∧ x ≤ 2147483647) : lowI (((x / 16777216 % 256 * 256 + x / 65536 % 256) * 256 + x / 256 % 256) * 256 + x % 256) = x := by
  have e : ((x / 16777216 % 256 * 256 + x / 65536 % 256) * 256 + x / 256 % 256) * 256 + x % 256 = x % 4294967296 := by omega
  rw [e]; unfold lowI; omega
theorem two_b2 {x : Int} (h : 0 ≤ x ∧ x ≤ 65535) : 256 * (x / 256 % 256) + x % 256 = x := by omega
theorem getR_body (Z : List Int) (h : RepWf Z) (hR : RightL Z) (x y : Int) : getR (bodyL Z ++ [x, y]) = Z := by
  obtain ⟨f, s, u, g, q0, q1, q2, q3, x0, x1, x2, rfl⟩ := eleven_list Z h.1
  have B := h.bd
  obtain ⟨hf, hs, hu, hg, h0, h1, h2⟩ := hR
  simp only [bodyL, getR, b2, fourI, List.cons_append, List.nil_append, List.getD_cons_zero, List.getD_cons_succ]
  rw [two_b2 hs, two_b2 hu, two_b2 hg, low_four B.q0, low_four B.q1, low_four B.q2, low_four B.q3, half_two h0, half_two h1, half_two h2, show f % 256 = f by omega]
theorem get_frame (Z : List Int) (h : RepWf Z) (hR : RightL Z) : getE (frameL Z) = 0 ∧ getR (frameL Z) = Z := by
  have hl := frameL_len Z h.1
  have ht : (frameL Z).take 30 = bodyL Z := by have := seal_take (bodyL Z); rwa [bodyL_len Z h.1] at this
  refine ⟨?_, getR_body Z h hR _ _⟩
  unfold getE
  rw [if_neg (by omega), if_neg (by omega), ht, if_neg (by simp [frameL]), if_neg]
  obtain ⟨f, s, u, g, q0, q1, q2, q3, x0, x1, x2, rfl⟩ := eleven_list Z h.1
  obtain ⟨hf, -⟩ := hR
  simp only [frameL, sealL, bodyL, List.cons_append, List.nil_append, List.getD_cons_zero, List.getD_cons_succ]
  omega
theorem got_frame (Z : List Int) (h : RepWf Z) (hR : RightL Z) : gotR (frameL Z) = Z := by
  rw [gotR, if_pos (get_frame Z h hR).1, (get_frame Z h hR).2]
theorem getE_zero {L : List Int} (h : getE L = 0) : L.length = 32 ∧ L = sealL (L.take 30) ∧ L.getD 0 0 = 1 ∧ L.getD 1 0 ≤ 15 := by
  unfold getE at h
  split at h
  · cases h
  · split at h
    · cases h
    · split at h
      · cases h
      · split at h
        · cases h
        · rename_i h1 h2 h3 h4
          exact ⟨by omega, Decidable.not_not.1 h3, by omega, by omega⟩
theorem thirty_list (L : List Int) (h : L.length = 30) : ∃ a0 a1 a2 a3 a4 a5 a6 a7 a8 a9 a10 a11 a12 a13 a14 a15 a16 a17 a18 a19 a20 a21 a22 a23 a24 a25 a26 a27 a28 a29, L = [a0, a1, a2, a3, a4, a5, a6, a7, a8, a9, a10, a11, a12, a13, a14, a15, a16, a17, a18, a19, a20, a21, a22, a23, a24, a25, a26, a27, a28, a29] := by
  match L, h with
  | [a0, a1, a2, a3, a4, a5, a6, a7, a8, a9, a10, a11, a12, a13, a14, a15, a16, a17, a18, a19, a20, a21, a22, a23, a24, a25, a26, a27, a28, a29], _ => exact ⟨a0, a1, a2, a3, a4, a5, a6, a7, a8, a9, a10, a11, a12, a13, a14, a15, a16, a17, a18, a19, a20, a21, a22, a23, a24, a25, a26, a27, a28, a29, rfl⟩
theorem frame_get (L : List Int) (hb : ∀ x ∈ L, 0 ≤ x ∧ x ≤ 255) (h : getE L = 0) : RepWf (getR L) ∧ RightL (getR L) ∧ frameL (getR L) = L := by
  obtain ⟨hl, hs, h0, h1⟩ := getE_zero h
  have hlt : (L.take 30).length = 30 := by simp; omega
  obtain ⟨a0, a1, a2, a3, a4, a5, a6, a7, a8, a9, a10, a11, a12, a13, a14, a15, a16, a17, a18, a19, a20, a21, a22, a23, a24, a25, a26, a27, a28, a29, hY⟩ := thirty_list (L.take 30) hlt
  have hbY : ∀ x ∈ [a0, a1, a2, a3, a4, a5, a6, a7, a8, a9, a10, a11, a12, a13, a14, a15, a16, a17, a18, a19, a20, a21, a22, a23, a24, a25, a26, a27, a28, a29], 0 ≤ x ∧ x ≤ 255 := fun x hx => hb x (List.mem_of_mem_take (by rw [hY]; exact hx))
  rw [hY] at hs
  obtain ⟨x, y, hxy⟩ : ∃ x y, sealL [a0, a1, a2, a3, a4, a5, a6, a7, a8, a9, a10, a11, a12, a13, a14, a15, a16, a17, a18, a19, a20, a21, a22, a23, a24, a25, a26, a27, a28, a29] = [a0, a1, a2, a3, a4, a5, a6, a7, a8, a9, a10, a11, a12, a13, a14, a15, a16, a17, a18, a19, a20, a21, a22, a23, a24, a25, a26, a27, a28, a29] ++ [x, y] := ⟨_, _, rfl⟩
  have hsl := hs
  rw [hxy] at hs
  have e : getR L = getR ([a0, a1, a2, a3, a4, a5, a6, a7, a8, a9, a10, a11, a12, a13, a14, a15, a16, a17, a18, a19, a20, a21, a22, a23, a24, a25, a26, a27, a28, a29] ++ [x, y]) := by rw [← hs]
  rw [hs] at h0 h1
  simp only [List.mem_cons, List.not_mem_nil, or_false, forall_eq_or_imp, forall_eq] at hbY
  obtain ⟨ha0, ha1, ha2, ha3, ha4, ha5, ha6, ha7, ha8, ha9, ha10, ha11, ha12, ha13, ha14, ha15, ha16, ha17, ha18, ha19, ha20, ha21, ha22, ha23, ha24, ha25, ha26, ha27, ha28, ha29⟩ := hbY
  simp only [List.cons_append, List.nil_append, List.getD_cons_zero, List.getD_cons_succ] at h0 h1
  have e2 : bodyL (getR ([a0, a1, a2, a3, a4, a5, a6, a7, a8, a9, a10, a11, a12, a13, a14, a15, a16, a17, a18, a19, a20, a21, a22, a23, a24, a25, a26, a27, a28, a29] ++ [x, y])) = [a0, a1, a2, a3, a4, a5, a6, a7, a8, a9, a10, a11, a12, a13, a14, a15, a16, a17, a18, a19, a20, a21, a22, a23, a24, a25, a26, a27, a28, a29] := by
    simp only [bodyL, getR, List.cons_append, List.nil_append, List.getD_cons_zero, List.getD_cons_succ]
    rw [b2_two ha2 ha3, b2_two ha4 ha5, b2_two ha6 ha7, four_low ha8 ha9 ha10 ha11, four_low ha12 ha13 ha14 ha15, four_low ha16 ha17 ha18 ha19, four_low ha20 ha21 ha22 ha23, b2_half ha24 ha25, b2_half ha26 ha27, b2_half ha28 ha29, show a1 % 256 = a1 by omega, h0]
    rfl
  rw [e]
  refine ⟨RepBd.wf ?_, ?_, ?_⟩
  · refine ⟨?_, ?_, ?_, ?_, lowI_bd _, lowI_bd _, lowI_bd _, lowI_bd _, ?_, ?_, ?_⟩
    · show _ ≤ a1 ∧ a1 ≤ _; omega
    · show _ ≤ 256 * a2 + a3 ∧ 256 * a2 + a3 ≤ _; omega
    · show _ ≤ 256 * a4 + a5 ∧ 256 * a4 + a5 ≤ _; omega
    · show _ ≤ 256 * a6 + a7 ∧ 256 * a6 + a7 ≤ _; omega
    · have := halfI_bd (256 * a24 + a25); show _ ≤ halfI (256 * a24 + a25) ∧ halfI (256 * a24 + a25) ≤ _; omega
    · have := halfI_bd (256 * a26 + a27); show _ ≤ halfI (256 * a26 + a27) ∧ halfI (256 * a26 + a27) ≤ _; omega
    · have := halfI_bd (256 * a28 + a29); show _ ≤ halfI (256 * a28 + a29) ∧ halfI (256 * a28 + a29) ≤ _; omega
  · refine ⟨?_, ?_, ?_, ?_, ?_, ?_, ?_⟩
    · show 0 ≤ a1 ∧ a1 ≤ 15; omega
    · show 0 ≤ 256 * a2 + a3 ∧ 256 * a2 + a3 ≤ 65535; omega
    · show 0 ≤ 256 * a4 + a5 ∧ 256 * a4 + a5 ≤ 65535; omega
    · show 0 ≤ 256 * a6 + a7 ∧ 256 * a6 + a7 ≤ 65535; omega
    · exact halfI_bd (256 * a24 + a25)
    · exact halfI_bd (256 * a26 + a27)
    · exact halfI_bd (256 * a28 + a29)
  · rw [frameL, e2]
    exact hsl.symm
theorem zero_wf : RepWf zeroR := RepBd.wf ⟨by omega, by omega, by omega, by omega, by omega, by omega, by omega, by omega, by omega, by omega, by omega⟩
theorem zero_right : RightL zeroR := by refine ⟨?_, ?_, ?_, ?_, ?_, ?_, ?_⟩ <;> first | exact ⟨by decide, by decide⟩ | decide
theorem got_wf (L : List Int) (hb : ∀ x ∈ L, 0 ≤ x ∧ x ≤ 255) : RepWf (gotR L) := by
  unfold gotR
  split
  · rename_i h; exact (frame_get L hb h).1
  · exact zero_wf
end Go.Proofs.YtecbfegohdllbaaDoor
