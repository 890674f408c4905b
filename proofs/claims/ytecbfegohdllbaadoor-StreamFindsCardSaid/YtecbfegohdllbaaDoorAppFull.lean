/- append to a slice of bytes that has no spare capacity: a new row, or nothing at all. -/
import Derived.Test.YtecbfegohdllbaaDoorFrameAll
namespace Go.Proofs.YtecbfegohdllbaaDoor
open Go.RowKit
set_option linter.unusedVariables false
set_option linter.unusedSimpArgs false
theorem reads_new {W : World} {Y : List Int} {t : TypeId} {zs : Array Value} {c : Nat} (hwf : ∀ x ∈ Y, (Lit.int .u8 x).wf = true) (hc : Y.length ≤ c) (hm : c ≤ maxLen) :
    Reads .u8 (W.alloc (.cells ((Y.map (Value.int .u8)).toArray ++ zs) t)) (.slice (some ⟨W.heap.size, 0, none⟩) Y.length c) Y := by
  refine ⟨_, c, rfl, hc, hm, hwf, (fun h => by cases h), fun b hb i hi => ?_⟩
  obtain rfl := Option.some.inj hb
  rw [add_plain, Nat.zero_add, cell_of_row _ _ i _ _ _ (heap_alloc_new W _)]
  rw [Array.getElem?_append_left (by simpa using hi)]
  simp [hi]
/-- what a full slice of bytes comes to when another is appended -/
theorem run_append_full (W : World) (a : Option Addr) (Y B : List Int) (v : Value) (h1 : Reads .u8 W (.slice a Y.length Y.length) Y) (h2 : Reads .u8 W v B) (hl : Y.length + B.length ≤ 1000000) (ty : TypeId) :
    ∃ (a' : Option Addr) (c' : Nat) (W' : World), (Builtin.append_ #[22, 22] ty #[.slice a Y.length Y.length, v]).run Tryd.prog W = .ok (.slice a' (Y ++ B).length c') W' ∧ Below W.heap.size W W' ∧ Reads .u8 W' (.slice a' (Y ++ B).length c') (Y ++ B) ∧
      (a' = a ∨ (a' = some ⟨W.heap.size, 0, none⟩ ∧ W.heap.size < W'.heap.size)) := by
  obtain ⟨i0, hi, hz0, hz1, hz2⟩ := info_parts Tryd.infoU8
  have hw1 := Reads.wf h1
  have hw2 := Reads.wf h2
  have hwf : ∀ x ∈ Y ++ B, (Lit.int .u8 x).wf = true := fun x hx => (List.mem_append.1 hx).elim (hw1 x) (hw2 x)
  obtain ⟨ad, c, rfl, g1, g2, g3, g4, g5⟩ := id h2
  obtain ⟨a', c1, hv1, f1, f2, f3, f4, f5⟩ := id h1
  obtain ⟨rfl, -, rfl⟩ := Value.slice.inj hv1
  by_cases hB : B = []
  · subst hB
    refine ⟨a, Y.length, W, ?_, Below.refl _ _, by simpa using h1, .inl rfl⟩
    have hf : (Builtin.firstCells i0.size 0 (.slice ad 0 c)).run Tryd.prog W = .ok #[] W := by
      rcases ad with _ | ad
      · exact run_firstCells_none W _ _ _ _
      · exact run_firstCells_some W _ 0 ad 0 c [] (by simp) (fun j u h => by cases h)
    rcases a with _ | a
    · simp [Builtin.append_, run_underlying Tryd.underlying22, sizeOf, typeInfo, hi, Builtin.lenOf, hf]
    · simp [Builtin.append_, run_underlying Tryd.underlying22, sizeOf, typeInfo, hi, Builtin.lenOf, hf, storeCells]
  · have hBl : 0 < B.length := List.length_pos_iff.2 hB
    rcases ad with _ | ad
    · exact absurd (g4 rfl).1 hB
    have news : ∀ (j : Nat) (u : Value), (B.map (Value.int .u8))[j]? = some u → W.cell? (ad.add j) = some u := by
      intro j u hj
      have hjl : j < B.length := by
        rcases Nat.lt_or_ge j B.length with h | h
        · exact h
        · rw [List.getElem?_eq_none (by simpa using h)] at hj; cases hj
      rw [g5 ad rfl j hjl]
      simpa [hjl] using hj
    rcases a with _ | a
    · obtain ⟨rfl, -⟩ := f4 rfl
      have hr := run_append_nil (P := Tryd.prog) W 22 ty 5 i0 (.int .u8 0) Tryd.underlying22 hi hz0 ad B.length c (B.map (Value.int .u8)) (by simp [hz1]) news hBl (by omega) (by rw [hz2]; omega)
      have hg := grownCap_ge W B.length 0 5
      have hgm := grownCap_le_maxLen W B.length 0 5 (by simp [maxLen]; simp at hl; omega)
      refine ⟨_, grownCap W B.length 0 5, _, by simpa using hr, ((Below.refl _ W).drew).alloc (by simp) _, ?_, .inr ⟨rfl, by simp⟩⟩
      have := reads_new (W := W.drew) (t := 5) (zs := Builtin.zeroCells (Value.int .u8 0).cells (grownCap W B.length 0 5 - B.length)) hw2 hg hgm
      simpa using this
    · have olds : ∀ (j : Nat) (u : Value), (Y.map (Value.int .u8))[j]? = some u → W.cell? (a.add j) = some u := by
        intro j u hj
        have hjl : j < Y.length := by
          rcases Nat.lt_or_ge j Y.length with h | h
          · exact h
          · rw [List.getElem?_eq_none (by simpa using h)] at hj; cases hj
        rw [f5 a rfl j hjl]
        simpa [hjl] using hj
      have hr := run_append_grow (P := Tryd.prog) W 22 ty 5 i0 (.int .u8 0) Tryd.underlying22 hi hz0 a Y.length Y.length (Y.map (Value.int .u8)) (by simp [hz1]) olds ad B.length c (B.map (Value.int .u8)) (by simp [hz1]) news (by omega) (by omega)
        (growslice_fits (by omega) (by rw [hz2]; omega))
      have hg := grownCap_ge W (Y.length + B.length) Y.length 5
      have hgm := grownCap_le_maxLen W (Y.length + B.length) Y.length 5 (by simp [maxLen]; omega)
      refine ⟨_, grownCap W (Y.length + B.length) Y.length 5, _, by rw [List.length_append]; exact hr, ((Below.refl _ W).drew).alloc (by simp) _, ?_, .inr ⟨rfl, by simp⟩⟩
      have := reads_new (W := W.drew) (Y := Y ++ B) (t := 5) (zs := Builtin.zeroCells (Value.int .u8 0).cells (grownCap W (Y.length + B.length) Y.length 5 - (Y.length + B.length))) hwf (by rw [List.length_append]; exact hg) hgm
      simpa [List.append_assoc] using this
theorem wp_append_run {P : Program} {o : Oper} {a : Act} {w w' : World} {K : Act → World → Prop} {Q : Exit → Act → World → Prop} (s x : Operand) (t : TypeId)
    (ho : o.op = .call { callee := .builtin .append, args := #[s, x], argTypes := #[t, t] }) {u v v' : Value} (hs : a.eval s = u) (hx : a.eval x = v)
    (hr : (Builtin.append_ #[t, t] o.type #[u, v]).run P w = .ok v' w') (h : K (a.put o.dst v') w') : o.wp P a w K Q := by
  unfold Oper.wp execOp
  simp only [ho, resolve, invoke, builtin, Sem.run_bind, Sem.run_pure, Result.andThen_ok, List.map_toArray, List.map_cons, List.map_nil, hs, hx, hr]
  exact h
/-- a region that cannot but go on -/
def OnlyOn (K : Act → World → Prop) : Exit → Act → World → Prop
  | .normal, a, w => K a w
  | _, _, _ => False
theorem wp_only {P : Program} {s : Code} {K : Act → World → Prop} {Q' : Exit → Act → World → Prop} {a : Act} {w : World} (h : s.wp P (OnlyOn K) a w) : s.wp P (Exit.then K Q') a w :=
  wp_mono h (fun e a' w' h' => by cases e <;> first | exact h' | exact h'.elim)
end Go.Proofs.YtecbfegohdllbaaDoor
