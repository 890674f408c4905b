/- Layer 46 (stream): what a law keeps beside a stream: a row of bytes and a row of reports of its own; appends onto them. -/
import Derived.Test.YtecbfegohdllbaaDoorStreamAwake
import Derived.Maps.AppendAt
namespace Go.Proofs.YtecbfegohdllbaaDoor
open Go.RowKit
set_option linter.unusedVariables false
set_option linter.unusedSimpArgs false
theorem SI.ok {Ok Ok' : Nat → Prop} {N g : Nat} {Y : List Int} {k : Int} {W : World} (h : SI Ok N g Y k W) (ho : ∀ n, n < N → Ok n → Ok' n) : SI Ok' N g Y k W := by
  obtain ⟨a, c, h1, h2, h3, h4⟩ := h
  exact ⟨a, c, h1, h2, h3, fun b e => ⟨(h4 b e).1, (h4 b e).2.1, ho _ (h4 b e).1 (h4 b e).2.2⟩⟩
theorem SI.grown {Ok : Nat → Prop} {N g : Nat} {Y : List Int} {k : Int} {A B : World} {row : Option Nat} (h : SI Ok N g Y k A) (hg : A.grownBy B row) (hN : N ≤ A.heap.size) (hr : row ≠ some g) (ho : ∀ n, Ok n → row ≠ some n) : SI Ok N g Y k B := by
  obtain ⟨a, c, h1, h2, h3, h4⟩ := h
  refine ⟨a, c, (hg.block g (by omega) (by first | exact fun e => hr e | exact fun e => hr e.symm)).trans h1, ?_, h3, h4⟩
  obtain ⟨a', c', hv, r1, r2, r3, r4, r5⟩ := h2
  obtain ⟨rfl, -, rfl⟩ := Value.slice.inj hv
  refine ⟨_, _, rfl, r1, r2, r3, r4, fun b hb i hi => ?_⟩
  have hB := h4 b hb
  have hbl : (b.add i).block = b.block := by unfold Addr.add; split <;> rfl
  rw [World.cell?_of_block (hg.block _ (by rw [hbl]; omega) (by rw [hbl]; first | exact fun e => ho _ hB.2.2 e | exact fun e => ho _ hB.2.2 e.symm))]
  exact r5 b hb i hi
theorem own_ne {W : World} {b1 b2 s1 s2 n1 n2 : Nat} {e1 e2 : TypeId} {v1 v2 : Value} {x1 x2 : List Value} (h1 : W.ownsRow b1 e1 s1 v1 n1 x1) (h2 : W.ownsRow b2 e2 s2 v2 n2 x2) (hne : e1 ≠ e2) : v1.ownBlock = none ∨ v1.ownBlock ≠ v2.ownBlock := by
  rcases h1.2 with ⟨rfl, -⟩ | ⟨g, cap, cur, rfl, -, hg, -⟩
  · exact .inl rfl
  · refine .inr fun e => ?_
    exact row_not' h2 hg hne e.symm
theorem wpList_append_reads_at {P : Program} {w : World} {ops : Array Oper} {rest : List Oper} {o : Oper} {a : Act} {Q : Exit → Act → World → Prop} (hgd : o.guard = none) (s x : Operand) (t : TypeId)
    (ho : o.op = .call { callee := .builtin .append, args := #[s, x], argTypes := #[t, t] })
    (base : Nat) (e : TypeId) (i : TypeInfo) (z : Value) (k : IntKind) (bytes : Nat) (ht : P.underlying t = some (.slice e)) (hi : P.info? e = some i) (hz : i.zero = some z)
    (hsize : i.size = 1) (hby : i.bytes = bytes) (hzs : z.cells.size = 1)
    (v : Value) (n : Nat) (xs : List Value) (hs : a.eval s = v) (hown : w.ownsRow base e 1 v n xs) (u : Value) (l : List Int) (hx : a.eval x = u) (hr : Reads k w u l)
    (h63 : n + l.length ≤ maxLen) (hbytes : (n + l.length) * bytes ≤ 140737488355328) (hbase : base ≤ w.heap.size)
    (h : ∀ v' w', w'.ownsRow base e 1 v' (n + l.length) (xs ++ l.map (Value.int k)) → w.grownBy w' v.ownBlock → (v'.ownBlock = v.ownBlock ∨ v'.ownBlock = some w.heap.size) → wpList P ops Q rest (a.put o.dst v') w') : wpList P ops Q (o :: rest) a w := by
  obtain ⟨ad, c, rfl, h1, h2, h3, h4, h5⟩ := hr
  cases ad with
  | none =>
    obtain ⟨rfl, rfl⟩ := h4 rfl
    refine wpList_append_own_none hgd s x t ho base e i 1 ht hi v n xs hs hown hx ?_
    exact h v w (by simpa using hown) (grownBy_refl _ _) (.inl rfl)
  | some ad =>
    refine wpList_append_own_at _ hgd s x t ho base e i z 1 bytes ht hi hz hsize hby hzs (by decide) v n xs hs hown ad l.length c (l.map (Value.int k)) hx (by simp) ?_ ?_ h63 hbytes hbase (fun v' w' a1 a2 _ a3 => h v' w' a1 a2 a3)
    · intro j q hj
      have hjl : j < l.length := by
        rcases Nat.lt_or_ge j l.length with g | g
        · exact g
        · rw [List.getElem?_eq_none (by simpa using g)] at hj; cases hj
      rw [h5 ad rfl j hjl]
      simpa [hjl] using hj
    · intro q hq
      obtain ⟨_, _, rfl⟩ := List.mem_map.1 hq
      rfl
theorem repCells_app (l r : List (List Int)) : repCells (l ++ r) = repCells l ++ repCells r := by simp [repCells]
theorem wpList_append_rows {w : World} {ops : Array Oper} {rest : List Oper} {o : Oper} {a : Act} {Q : Exit → Act → World → Prop} (hgd : o.guard = none) (s x : Operand)
    (ho : o.op = .call { callee := .builtin .append, args := #[s, x], argTypes := #[60, 60] })
    (base base' : Nat) (v u : Value) (l r : List (List Int)) (hs : a.eval s = v) (hown : Rows' base w v l) (hx : a.eval x = u) (hu : Rows' base' w u r) (hr : ∀ Z ∈ r, Z.length = 11)
    (hlen : l.length + r.length ≤ 1000000) (hbase : base ≤ w.heap.size)
    (h : ∀ v' w', Rows' base w' v' (l ++ r) → w.grownBy w' v.ownBlock → (v'.ownBlock = v.ownBlock ∨ v'.ownBlock = some w.heap.size) → wpList Tryd.prog ops Q rest (a.put o.dst v') w') : wpList Tryd.prog ops Q (o :: rest) a w := by
  obtain ⟨i0, hi0, hz0, hz1, hz2⟩ := info_parts Tryd.infoRep
  rcases hu.2 with ⟨rfl, hn⟩ | ⟨g, cap, cur, rfl, -, hg, h1, h2, h3, h4⟩
  · have hr0 : r = [] := List.eq_nil_of_length_eq_zero hn
    subst hr0
    refine wpList_append_own_none hgd s x _ ho base 50 i0 11 Tryd.underlying60 hi0 v l.length (repCells l) hs hown hx ?_
    exact h v w (by simpa using hown) (grownBy_refl _ _) (.inl rfl)
  · refine wpList_append_own_at _ hgd s x _ ho base 50 i0 (.agg (rcells zeroR)) 11 64 Tryd.underlying60 hi0 hz0 hz1 hz2 rfl (by decide) v l.length (repCells l) hs hown ⟨g, 0, none⟩ r.length cap (repCells r) hx hu.1 ?_ ?_ (by simp [maxLen]; omega) (by omega) hbase ?_
    · intro j q hj
      rw [add_plain, Nat.zero_add]
      refine (cell_of_row w g j _ _ _ hg).trans ?_
      rw [← h4, List.getElem?_take] at hj
      split at hj
      · rw [← Array.getElem?_toList]; exact hj
      · cases hj
    · intro q hq
      unfold repCells at hq
      obtain ⟨Z, hZ, hq⟩ := List.mem_flatMap.1 hq
      exact Array.all_eq_true_iff_forall_mem.1 (rcells_one Z) q (by simpa using hq)
    · intro v' w' a1 a2 _ a3
      refine h v' w' ?_ a2 a3
      unfold Rows'
      rw [List.length_append, repCells_app]
      exact a1
/-- beside a stream: all bytes so far, all reports so far, each in a row of the law's own -/
def T4 (w : World) (M g : Nat) (al gt : Value) (Al : List Int) (rows : List (List Int)) (Y : List Int) (k : Int) (W : World) : Prop :=
  Below w.heap.size w W ∧ M ≤ W.heap.size ∧ W.ownsRow M 5 1 al Al.length (Al.map (Value.int .u8)) ∧ Rows' M W gt rows ∧
  SI (fun n => al.ownBlock ≠ some n ∧ gt.ownBlock ≠ some n) W.heap.size g Y k W ∧ (∀ x ∈ Al, (Lit.int .u8 x).wf = true) ∧ w.heap.size ≤ g ∧ g < M
section
variable {w A B : World} {M g : Nat} {al gt : Value} {Al : List Int} {rows : List (List Int)} {Y : List Int} {k : Int}
theorem T4.all {al' : Value} {Bs : List Int} (h : T4 w M g al gt Al rows Y k A) (ho : B.ownsRow M 5 1 al' (Al.length + Bs.length) (Al.map (Value.int .u8) ++ Bs.map (Value.int .u8))) (hg : A.grownBy B al.ownBlock)
    (hl : al'.ownBlock = al.ownBlock ∨ al'.ownBlock = some A.heap.size) (hw : ∀ x ∈ Bs, (Lit.int .u8 x).wf = true) : T4 w M g al' gt (Al ++ Bs) rows Y k B := by
  obtain ⟨h1, h2, h3, h4, h5, h6, h7, h8⟩ := h
  have hbl : ∀ j, al.ownBlock = some j → w.heap.size ≤ j := fun j e => by have := (h3.lt j e).1; omega
  refine ⟨h1.grown hg h1.size hbl, Nat.le_trans h2 hg.size, by rw [List.length_append, List.map_append]; exact ho, h4.kept hg (own_ne h4 h3 (by decide)), ?_, fun x hx => (List.mem_append.1 hx).elim (h6 x) (hw x), h7, h8⟩
  refine (((h5.grown hg (Nat.le_refl _) (fun e => by have := (h3.lt g e).1; omega) (fun n hn => hn.1)).ok ?_).mono hg.size)
  intro n hn ⟨o1, o2⟩
  refine ⟨?_, o2⟩
  rcases hl with e | e
  · rw [e]; exact o1
  · rw [e]; intro e2; have := Option.some.inj e2; omega
theorem T4.got {gt' : Value} {rows' : List (List Int)} (h : T4 w M g al gt Al rows Y k A) (ho : Rows' M B gt' rows') (hg : A.grownBy B gt.ownBlock)
    (hl : gt'.ownBlock = gt.ownBlock ∨ gt'.ownBlock = some A.heap.size) : T4 w M g al gt' Al rows' Y k B := by
  obtain ⟨h1, h2, h3, h4, h5, h6, h7, h8⟩ := h
  have hbl : ∀ j, gt.ownBlock = some j → w.heap.size ≤ j := fun j e => by have := (h4.lt j e).1; omega
  refine ⟨h1.grown hg h1.size hbl, Nat.le_trans h2 hg.size, h3.kept hg (own_ne h3 h4 (by decide)), ho, ?_, h6, h7, h8⟩
  refine (((h5.grown hg (Nat.le_refl _) (fun e => by have := (h4.lt g e).1; omega) (fun n hn => hn.2)).ok ?_).mono hg.size)
  intro n hn ⟨o1, o2⟩
  refine ⟨o1, ?_⟩
  rcases hl with e | e
  · rw [e]; exact o2
  · rw [e]; intro e2; have := Option.some.inj e2; omega
theorem T4.okn (h : T4 w M g al gt Al rows Y k A) : ∀ n, A.heap.size ≤ n → al.ownBlock ≠ some n ∧ gt.ownBlock ≠ some n := by
  obtain ⟨h1, h2, h3, h4, h5, h6, h7, h8⟩ := h
  intro n hn
  exact ⟨fun e => by have := (h3.lt n e).2; omega, fun e => by have := (h4.lt n e).2; omega⟩
theorem T4.turn {Y' : List Int} {k' : Int} (h : T4 w M g al gt Al rows Y k A) (ht : Turn g A B) (hs : SI (fun n => al.ownBlock ≠ some n ∧ gt.ownBlock ≠ some n) B.heap.size g Y' k' B) : T4 w M g al gt Al rows Y' k' B := by
  obtain ⟨h1, h2, h3, h4, h5, h6, h7, h8⟩ := h
  exact ⟨h1.trans (ht.below h1.size h7), Nat.le_trans h2 ht.size, h3.kept ht (.inr (fun e => by have := (h3.lt g e).1; omega)), h4.kept ht (.inr (fun e => by have := (h4.lt g e).1; omega)), hs, h6, h7, h8⟩
theorem T4.below (h : T4 w M g al gt Al rows Y k A) (hb : Below A.heap.size A B) : T4 w M g al gt Al rows Y k B :=  by
  obtain ⟨h1, h2, h3, h4, h5, h6, h7, h8⟩ := h
  exact ⟨chain h1 hb, Nat.le_trans h2 hb.size, ownsRow_below h3 hb, ownsRow_below h4 hb, (h5.below hb).mono hb.size, h6, h7, h8⟩
theorem T4.reads (h : T4 w M g al gt Al rows Y k A) : Reads .u8 A al Al := reads_of_owns h.2.2.1 h.2.2.2.2.2.1
end
end Go.Proofs.YtecbfegohdllbaaDoor
