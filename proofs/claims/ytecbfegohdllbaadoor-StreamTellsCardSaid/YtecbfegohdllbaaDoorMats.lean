/- Rows of bytes at a slice's cells: how a parameter of type [][]byte reads; and reports as a parameter. -/
import Derived.Test.YtecbfegohdllbaaDoorPackA
import Derived.Deep.Matrix
namespace Go.Proofs.YtecbfegohdllbaaDoor
open Go.RowKit Go.ChangeShapes Go.WideShapes Go.Deep
set_option linter.unusedVariables false
set_option linter.unusedSimpArgs false
def Mats (w : World) (v : Value) (ls : List (List Int)) : Prop :=
  ∃ (a : Option Addr) (c : Nat), v = .slice a ls.length c ∧ ls.length ≤ c ∧ c ≤ maxLen ∧ (a = none → ls = []) ∧
    ∀ b, a = some b → ∀ (i : Nat) (B : List Int), ls[i]? = some B → ∃ u, w.cell? (b.add i) = some u ∧ Reads .u8 w u B
theorem Mats.later {w w' : World} {v : Value} {ls : List (List Int)} (h : Mats w v ls) (hb : Below w.heap.size w w') : Mats w' v ls := by
  obtain ⟨a, c, h1, h2, h3, h4, h5⟩ := h
  refine ⟨a, c, h1, h2, h3, h4, fun b e i B hi => ?_⟩
  obtain ⟨u, hc, hr⟩ := h5 b e i B hi
  refine ⟨u, (World.cell?_of_block (hb.block _ ?_)).trans hc, hr.later hb⟩
  simp only [World.cell?] at hc
  split at hc
  · rename_i hbb; exact (Array.getElem?_eq_some_iff.1 hbb).1
  · cases hc
theorem mats_at {w : World} {v : Value} {ls : List (List Int)} (h : Mats w v ls) : ∃ a c, v = .slice a ls.length c ∧ (0 < ls.length → ∃ b off, a = some ⟨b, off, none⟩) ∧ ls.length ≤ c := by
  obtain ⟨a, c, rfl, h2, h3, h4, h5⟩ := h
  refine ⟨a, c, rfl, fun h0 => ?_, h2⟩
  rcases a with _ | ⟨b, off, s⟩
  · rw [h4 rfl] at h0; cases h0
  · obtain ⟨u, hc, -⟩ := h5 _ rfl 0 (ls[0]) (by simp [h0])
    have hs : s = none := by simpa [Addr.add] using World.cell?_spot hc
    exact ⟨b, off, by rw [hs]⟩
theorem mats_cell {w : World} {b off n c : Nat} {ls : List (List Int)} (h : Mats w (.slice (some ⟨b, off, none⟩) n c) ls) {i : Nat} {B : List Int} (hi : ls[i]? = some B) : ∃ a c, w.cell? ⟨b, off + i, none⟩ = some (.slice a B.length c) ∧ Reads .u8 w (.slice a B.length c) B := by
  obtain ⟨a, c', h1, h2, h3, h4, h5⟩ := h
  obtain ⟨rfl, -, -⟩ := Value.slice.inj h1
  obtain ⟨u, hc, hr⟩ := h5 _ rfl i B hi
  rw [add_plain] at hc
  obtain ⟨a, c, rfl, -⟩ := id hr
  exact ⟨a, c, hc, hr⟩
section
variable {H : Type} {enc : TypeId × Value → H} {P : Program} {w : World} {base : Nat} {held : Bool}
theorem open_mats {t e q : TypeId} {fuel : Nat} {a : Option Addr} {len cap : Nat} {x : DataW H × List MemPlace} (ht : P.underlying t = some (.slice e)) (he : P.underlying e = some (.slice q)) (hq : P.underlying q = some (.int .u8))
    (ce : P.cellsOf e = 1) (cq : P.cellsOf q = 1) (h : DataW.trod enc P w base (fun _ => true) held fuel t (Value.slice a len cap).cells.toList = some x) : ∃ ls, Mats w (.slice a len cap) ls := by
  rcases open_int_rows ht he hq ce cq h with ⟨hcs, -⟩ | ⟨a', len', cap', A, L, C, Z, hcs, -, hl, hm, -, hx⟩
  · simp [Value.cells] at hcs
    obtain ⟨rfl, rfl, rfl⟩ := hcs
    exact ⟨[], none, 0, rfl, Nat.le_refl _, by simp [maxLen], fun _ => rfl, fun b e => by cases e⟩
  · simp [Value.cells] at hcs
    obtain ⟨rfl, rfl, rfl⟩ := hcs
    refine ⟨(List.range len).map fun r => (Z r).take (L r), some a', cap, by simp, by simpa using hl, hm, (fun e => by cases e), fun b e i B hi => ?_⟩
    obtain rfl := Option.some.inj e
    obtain ⟨hr, hB⟩ : i < len ∧ (Z i).take (L i) = B := by
      rw [List.getElem?_map] at hi
      obtain ⟨r, hr, hB⟩ := Option.map_eq_some_iff.1 hi
      obtain ⟨h1, h2⟩ := List.getElem?_eq_some_iff.1 hr
      simp at h1 h2
      subst h2
      exact ⟨h1, hB⟩
    obtain ⟨hc, r1, r2, r3, r4, r5, r6⟩ := hx i (by omega)
    refine ⟨_, hc, ?_⟩
    rw [← hB]
    refine (IsRow.reads (k := .u8) (a := A i) (len := L i) (cap := C i) (zs := Z i) ?_).2
    cases hA : A i with
    | none =>
      have h0 := r5 hA
      have hz : Z i = [] := List.eq_nil_of_length_eq_zero (by omega)
      exact .inl ⟨rfl, by omega, h0, hz⟩
    | some y =>
      exact .inr ⟨y, rfl, r1, r2, r3, fun j hj => (r6 y hA).2 j (by omega), r4⟩
end
end Go.Proofs.YtecbfegohdllbaaDoor
