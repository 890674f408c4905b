/- Small words for all walks of this seat: results as numbers and truths. -/
import Derived.Test.YtecbfegohdllbaaDoorProg
import Derived.WalkKit
import Derived.Below
namespace Go.Proofs.YtecbfegohdllbaaDoor
open Go.RowKit
theorem hid {p : Prop} (h : p) : Hid p := h
theorem ret_int {k : IntKind} {a b : Int} (h : a = b) : Ending.returned (.int k a) = .returned (.int k b) := by rw [h]
theorem ret_bool {a b : Bool} (h : a = b) : Ending.returned (.bool a) = .returned (.bool b) := by rw [h]
theorem bcell {W w1 : World} (hb : Below W.heap.size W w1) : (∀ b o, b < W.heap.size → w1.cell? ⟨b, o, none⟩ = W.cell? ⟨b, o, none⟩) ∧ (∀ b o, b < W.heap.size → w1.frozen? ⟨b, o, none⟩ = W.frozen? ⟨b, o, none⟩) :=
  ⟨fun b o h => hb.cell (p := ⟨b, o, none⟩) h, fun b o h => hb.frozen (p := ⟨b, o, none⟩) h⟩
theorem bd_i32 {n : Int} (h : (Lit.int .i32 n).wf = true) : -2147483648 ≤ n ∧ n ≤ 2147483647 := by
  simpa [Lit.wf, IntKind.min, IntKind.max, IntKind.signed, IntKind.bits] using h
theorem bd_i64 {n : Int} (h : (Lit.int .i64 n).wf = true) : -9223372036854775808 ≤ n ∧ n ≤ 9223372036854775807 := by
  simpa [Lit.wf, IntKind.min, IntKind.max, IntKind.signed, IntKind.bits] using h
theorem bd_u8 {n : Int} (h : (Lit.int .u8 n).wf = true) : 0 ≤ n ∧ n ≤ 255 := by
  simpa [Lit.wf, IntKind.min, IntKind.max, IntKind.signed, IntKind.bits] using h
theorem bd_u16 {n : Int} (h : (Lit.int .u16 n).wf = true) : 0 ≤ n ∧ n ≤ 65535 := by
  simpa [Lit.wf, IntKind.min, IntKind.max, IntKind.signed, IntKind.bits] using h
theorem ownsRow_empty {w : World} {base n : Nat} {e : TypeId} (hn : w.heap.size = n) (hb : base ≤ n) : (w.alloc (.cells #[] e)).ownsRow base e 1 (.slice (some ⟨n, 0, none⟩) 0 0) 0 [] := by
  subst hn; exact World.ownsRow_made w #[] 0 hb (Nat.zero_le _) rfl
theorem add_plain (b off i : Nat) : (⟨b, off, none⟩ : Addr).add i = ⟨b, off + i, none⟩ := by unfold Addr.add; split <;> simp_all
/-- a slice value that reads as these numbers -/
def Reads (k : IntKind) (w : World) (v : Value) (l : List Int) : Prop :=
  ∃ (a : Option Addr) (c : Nat), v = .slice a l.length c ∧ l.length ≤ c ∧ c ≤ maxLen ∧ (∀ x ∈ l, (Lit.int k x).wf = true) ∧ (a = none → l = [] ∧ c = 0) ∧
    ∀ b, a = some b → ∀ (i : Nat) (h : i < l.length), w.cell? (b.add i) = some (.int k l[i])
/-- where there is a number at all: the cells' plain places -/
theorem Reads.plain {k : IntKind} {w : World} {v : Value} {l : List Int} (h : Reads k w v l) (hl : 0 < l.length) :
    ∃ b off c, v = .slice (some ⟨b, off, none⟩) l.length c ∧ l.length ≤ c ∧ c ≤ maxLen ∧ b < w.heap.size ∧ ∀ (i : Nat) (h : i < l.length), w.cell? ⟨b, off + i, none⟩ = some (.int k l[i]) := by
  obtain ⟨a, c, rfl, h1, h2, h3, h4, h5⟩ := h
  rcases a with _ | ⟨b, off, spot⟩
  · have := (h4 rfl).1; subst this; simp at hl
  · have h6 := h5 _ rfl
    have h0 := h6 0 hl
    have hsp : spot = none := by simpa [Addr.add] using World.cell?_spot h0
    subst hsp
    refine ⟨b, off, c, rfl, h1, h2, ?_, fun i hi => by rw [← add_plain]; exact h6 i hi⟩
    simp only [World.cell?] at h0
    split at h0
    · rename_i hb; exact (Array.getElem?_eq_some_iff.1 hb).1
    · cases h0
theorem reads_of_owns {k : IntKind} {w : World} {base : Nat} {e : TypeId} {v : Value} {n : Nat} {l : List Int} (h : w.ownsRow base e 1 v n (l.map (Value.int k))) (hw : ∀ x ∈ l, (Lit.int k x).wf = true) : Reads k w v l := by
  obtain ⟨hl, h⟩ := h
  simp at hl
  subst hl
  rcases h with ⟨rfl, hn⟩ | ⟨g, cap, cur, rfl, hg, hc, h1, h2, h3, h4⟩
  · exact ⟨none, 0, by rw [hn], by omega, Nat.zero_le _, hw, fun _ => ⟨List.length_eq_zero_iff.1 hn, rfl⟩, fun b hb => by cases hb⟩
  · refine ⟨some ⟨g, 0, none⟩, cap, rfl, h1, h2, hw, fun h => (by cases h), ?_⟩
    intro b hb
    obtain rfl := Option.some.inj hb
    intro i hi
    have e1 : (l.map (Value.int k))[i]? = some (.int k l[i]) := by simp [hi]
    rw [← h4, List.getElem?_take] at e1
    simp only [Nat.mul_one] at e1
    rw [if_pos hi] at e1
    simp [World.cell?, hc, add_plain]
    simpa using e1
theorem Reads.below {k : IntKind} {w w' : World} {B : Nat} {v : Value} {l : List Int} (h : Reads k w v l) (hb : Below B w w') (hlt : ∀ b, v.ownBlock = some b → b < B) : Reads k w' v l := by
  obtain ⟨a, c, rfl, h1, h2, h3, h4, h5⟩ := h
  refine ⟨a, c, rfl, h1, h2, h3, h4, fun b hb' i hi => ?_⟩
  subst hb'
  rw [hb.cell (p := b.add i) (by have := hlt _ rfl; unfold Addr.add; split <;> exact this)]
  exact h5 _ rfl i hi
theorem Reads.later {k : IntKind} {w w' : World} {v : Value} {l : List Int} (h : Reads k w v l) (hb : Below w.heap.size w w') : Reads k w' v l := by
  by_cases hl : 0 < l.length
  · obtain ⟨b, off, c, rfl, h1, h2, h3, h4⟩ := h.plain hl
    exact h.below hb (fun b' hb' => by simp [Value.ownBlock] at hb'; omega)
  · obtain ⟨a, c, rfl, h1, h2, h3, h4, h5⟩ := h
    exact ⟨a, c, rfl, h1, h2, h3, h4, fun b hb' i hi => by omega⟩
theorem Reads.take {k : IntKind} {w : World} {a : Option Addr} {n c : Nat} {l : List Int} (h : Reads k w (.slice a n c) l) (m : Nat) (hm : m ≤ l.length) : Reads k w (.slice a m c) (l.take m) := by
  obtain ⟨a', c', hv, h1, h2, h3, h4, h5⟩ := h
  obtain ⟨rfl, rfl, rfl⟩ := Value.slice.inj hv
  have hl : (l.take m).length = m := by simp; omega
  refine ⟨a, c, by rw [hl], by omega, h2, fun x hx => h3 x (List.mem_of_mem_take hx), fun h => ?_, fun b hb i hi => ?_⟩
  · obtain ⟨rfl, rfl⟩ := h4 h; simp
  · rw [h5 b hb i (by omega)]; simp
/-- what a shell tells of a slice of integers that came in -/
def IsRow (k : IntKind) (w : World) (a : Option Addr) (len cap : Nat) (zs : List Int) : Prop :=
  (a = none ∧ len = 0 ∧ cap = 0 ∧ zs = []) ∨
  ∃ x, a = some x ∧ len ≤ cap ∧ cap ≤ maxLen ∧ zs.length = cap ∧ (∀ i, i < zs.length → w.cell? (x.add i) = some (.int k (zs.getD i 0))) ∧ ∀ n ∈ zs, (Lit.int k n).wf = true
theorem IsRow.reads {k : IntKind} {w : World} {a : Option Addr} {len cap : Nat} {zs : List Int} (h : IsRow k w a len cap zs) : (zs.take len).length = len ∧ Reads k w (.slice a len cap) (zs.take len) := by
  rcases h with ⟨rfl, rfl, rfl, rfl⟩ | ⟨x, rfl, h1, h2, h3, h4, h5⟩
  · exact ⟨rfl, none, 0, rfl, by simp, by simp [maxLen], by simp, fun _ => ⟨rfl, rfl⟩, fun b hb => by cases hb⟩
  · have hl : (zs.take len).length = len := by simp; omega
    refine ⟨hl, some x, cap, by rw [hl], by omega, h2, fun n hn => h5 n (List.mem_of_mem_take hn), fun h => (by cases h), fun b hb => ?_⟩
    obtain rfl := Option.some.inj hb
    intro i hi
    rw [h4 i (by omega)]
    simp [List.getD, List.getElem?_eq_getElem (show i < zs.length by omega)]
theorem chain {w w1 w2 : World} (h : Below w.heap.size w w1) (k : Below w1.heap.size w1 w2) : Below w.heap.size w w2 := h.trans (k.mono h.size)
end Go.Proofs.YtecbfegohdllbaaDoor
