/- Texts of this proof, merged: Log18 Log19. -/
import Derived.Test.YtecbfegohdllbaaDoorLog17
section
/- Layer 47 (log): who is nobody, the page's example: contracts. -/
namespace Go.Proofs.YtecbfegohdllbaaDoor
open Go.RowKit
set_option linter.unusedVariables false
set_option linter.unusedSimpArgs false
theorem ladd_nil (Z : List Int) (w : World) : Calls Tryd.prog 51 #[.pointer none, .agg (rcells Z)] w fun e w' => e = .returned (.int .i64 1) ∧ Below w.heap.size w w' := by
  go_enter Tryd.func51, Tryd.ntmps51
  go_wp2_with ((with_reducible refine at_op (.box 50 (.tmp 1)) ?_); refine wpR_box rfl (.tmp 1) rfl Z rfl ?_; intro g3 w3 hg3 hR3 hb3; have hl3 : w.heap.size ≤ g3 := Nat.le_of_eq hg3.symm; clear hg3)
  refine (live_nil _).mono ?_
  rintro e w2 ⟨rfl, rfl⟩
  go_wp2
  go_ret
  exact ⟨rfl, hb3⟩
theorem ladd_odd (g : Nat) (x y : Value) (Z : List Int) (w : World) (h : w.heap[g]? = some (.cells #[.int .i64 0, x, y] 117 (0, 0))) : Calls Tryd.prog 51 #[.pointer (some ⟨g, 0, none⟩), .agg (rcells Z)] w fun e w' => e = .returned (.int .i64 1) ∧ Below w.heap.size w w' := by
  have H := hid h
  clear h
  go_enter Tryd.func51, Tryd.ntmps51
  go_wp2_with ((with_reducible refine at_op (.box 50 (.tmp 1)) ?_); refine wpR_box rfl (.tmp 1) rfl Z rfl ?_; intro g3 w3 hg3 hR3 hb3; have hl3 : w.heap.size ≤ g3 := Nat.le_of_eq hg3.symm; clear hg3)
  refine (live_odd g x y _ ((hb3.block g (lt_of_row H.out)).trans H.out)).mono ?_
  rintro e w2 ⟨rfl, rfl⟩
  go_wp2
  go_ret
  exact ⟨rfl, hb3⟩
theorem lbytes_nil (w : World) : Calls Tryd.prog 54 #[.pointer none] w fun e w' => e = .returned (.slice none 0 0) ∧ w = w' := by
  go_enter Tryd.func54, Tryd.ntmps54
  go_wp2_with fail
  refine (live_nil _).mono ?_
  rintro e w2 ⟨rfl, rfl⟩
  go_wp2
  go_ret
  exact ⟨rfl, rfl⟩
theorem lbytes_odd (g : Nat) (x y : Value) (w : World) (h : w.heap[g]? = some (.cells #[.int .i64 0, x, y] 117 (0, 0))) : Calls Tryd.prog 54 #[.pointer (some ⟨g, 0, none⟩)] w fun e w' => e = .returned (.slice none 0 0) ∧ w = w' := by
  have L := hid (live_odd g x y w h)
  clear h
  go_enter Tryd.func54, Tryd.ntmps54
  go_wp2_with fail
  refine L.out.mono ?_
  rintro e w2 ⟨rfl, rfl⟩
  go_wp2
  go_ret
  exact ⟨rfl, rfl⟩
theorem ladd_right {M g room f : Nat} {ring : Value} {R : List (List Int)} (Z : List Int) (a0 a1 : Addr) (w : World) (h : LG M g room ring R f w) (hZ : RepWf Z) (hR : RightL Z) (hF : FE a0 a1 w) :
    Calls Tryd.prog 51 #[.pointer (some ⟨g, 0, none⟩), .agg (rcells Z)] w fun e w' => e = .returned (.int .i64 0) ∧ ∃ ring' R' f', LG M g room ring' R' f' w' ∧ ringL R' f' = addL room (ringL R f) Z ∧ Kept g ring.ownBlock w w' ∧ (ring'.ownBlock = ring.ownBlock ∨ ∃ j, ring'.ownBlock = some j ∧ w.heap.size ≤ j) := by
  have hle := h.2.2.2.2.2.2.2.1
  by_cases hlt : R.length < room
  · exact ladd_more Z a0 a1 w h hZ hR hF hlt
  · exact ladd_over Z a0 a1 w h hZ hR hF (by omega)
theorem LG.block {M g room f : Nat} {ring : Value} {R : List (List Int)} {W : World} (h : LG M g room ring R f W) (j : Nat) (e : ring.ownBlock = some j) : M ≤ j ∧ j < W.heap.size := h.2.1.lt j e
def exA : List Int := [0, 1, 0, 0, 0, 0, 0, 0, 0, 0, 0]
def exB : List Int := [0, 65, 0, 0, -1, 0, 0, 0, 0, 0, 0]
theorem exA_wf : RepWf exA := RepBd.wf ⟨by omega, by omega, by omega, by omega, by omega, by omega, by omega, by omega, by omega, by omega, by omega⟩
theorem exA_right : RightL exA := by refine ⟨?_, ?_, ?_, ?_, ?_, ?_, ?_⟩ <;> first | exact ⟨by decide, by decide⟩ | decide
theorem exB_wf : RepWf exB := RepBd.wf ⟨by omega, by omega, by omega, by omega, by omega, by omega, by omega, by omega, by omega, by omega, by omega⟩
theorem exB_right : RightL exB := by refine ⟨?_, ?_, ?_, ?_, ?_, ?_, ?_⟩ <;> first | exact ⟨by decide, by decide⟩ | decide
theorem ex_delta : deltaN exB exA 11 = [0, 128, 1, 0, 0, 1, 0, 0, 0, 0, 0, 0] := by
  have h0 : shortL 0 = [0] := shortL_lt (by decide)
  have h1 : shortL 1 = [1] := shortL_lt (by decide)
  have h2 : shortL 128 = [128, 1] := by rw [shortL_ge (by decide), shortL_lt (by decide)]; rfl
  have e : (List.range 11).map (fun j => zig (lowI (exB.getD j 0 - exA.getD j 0))) = [0, 128, 0, 0, 1, 0, 0, 0, 0, 0, 0] := by decide
  have e2 : deltaN exB exA 11 = ((List.range 11).map (fun j => zig (lowI (exB.getD j 0 - exA.getD j 0)))).flatMap shortL := by rw [List.flatMap_map]; rfl
  rw [e2, e]
  simp only [List.flatMap_cons, List.flatMap_nil, h0, h1, h2]
  rfl
theorem ex_bytes : ∃ s0 s1, logL 2 [exA, exB] = [0, 2, 0, 2] ++ frameL exA ++ [0, 128, 1, 0, 0, 1, 0, 0, 0, 0, 0, 0] ++ [s0, s1] := by
  refine ⟨hiB (crcOf (logB 2 [exA, exB])), loB (crcOf (logB 2 [exA, exB])), ?_⟩
  have h : logB 2 [exA, exB] = [0, 2, 0, 2] ++ frameL exA ++ [0, 128, 1, 0, 0, 1, 0, 0, 0, 0, 0, 0] := by
    have hb : bodyN [exA, exB] 2 = frameL exA ++ deltaN exB exA 11 := by
      rw [show (2 : Nat) = 0 + 1 + 1 from rfl, bodyN_succ, bodyN_succ]
      rfl
    unfold logB
    rw [show ([exA, exB] : List (List Int)).length = 2 from rfl, hb, ex_delta, List.append_assoc]
    rfl
  unfold logL sealL
  rw [← h]
theorem ex_at (i : Nat) (x : Int) (h1 : 36 ≤ i) (h2 : ([0, 128, 1, 0, 0, 1, 0, 0, 0, 0, 0, 0] : List Int)[i - 36]? = some x) : (logL 2 [exA, exB])[i]? = some x := by
  obtain ⟨s0, s1, e⟩ := ex_bytes
  have hf := frameL_len exA rfl
  have h3 := (List.getElem?_eq_some_iff.1 h2).1
  simp only [List.length_cons, List.length_nil] at h3
  rw [e, List.getElem?_append_left (by simp [hf]; omega), List.getElem?_append_right (by simp [hf]; omega)]
  rw [show ([0, 2, 0, 2] ++ frameL exA : List Int).length = 36 by simp [hf]]
  exact h2
theorem ex_len : (logL 2 [exA, exB]).length = 50 := by
  obtain ⟨s0, s1, e⟩ := ex_bytes
  have hf := frameL_len exA rfl
  rw [e]
  simp [hf]
set_option maxRecDepth 100000 in
set_option maxHeartbeats 4000000 in
theorem awake47 (a0 a1 : Addr) (w : World) (hF : FE a0 a1 w) : Calls Tryd.prog 49 #[] w fun e w' => e = .returned (.bool true) ∧ Below w.heap.size w w' := by
  have F0 := hid hF
  clear hF
  go_enter Tryd.func49, Tryd.ntmps49
  go_wp2_with fail
  refine (lnew_any 2 w ⟨by decide, by decide⟩).mono ?_
  rintro e w1 ⟨rfl, hl1, hb1⟩
  obtain ⟨M, hM⟩ : ∃ M, M = w1.heap.size := ⟨_, rfl⟩
  have hMs : w.heap.size ≤ M := by rw [hM]; exact hb1.size
  rw [← hM] at hl1
  obtain ⟨g, hg⟩ : ∃ g, g = w.heap.size := ⟨_, rfl⟩
  rw [← hg] at hl1
  have hgw : w.heap.size ≤ g := by omega
  rw [← hg]
  clear hM hg
  go_wp2_with fail
  rw [show (#[.int .i64 0, .int .i64 1, .int .i64 0, .int .i64 0, .int .i32 0, .int .i32 0, .int .i32 0, .int .i32 0, .int .i32 0, .int .i32 0, .int .i32 0] : Array Value) = rcells exA from rfl]
  refine (ladd_right exA a0 a1 w1 hl1 exA_wf exA_right (F0.out.later hb1)).mono ?_
  rintro e w2 ⟨rfl, ring2, R2, f2, hl2, hr2, hk2, ho2⟩
  have hb2 := hb1.trans (hk2.below hb1.size hgw (fun j e => by cases e))
  rw [ringL_zero] at hr2
  go_wp2_with fail
  rw [show (#[.int .i64 0, .int .i64 65, .int .i64 0, .int .i64 0, .int .i32 (-1), .int .i32 0, .int .i32 0, .int .i32 0, .int .i32 0, .int .i32 0, .int .i32 0] : Array Value) = rcells exB from rfl]
  refine (ladd_right exB a0 a1 w2 hl2 exB_wf exB_right (F0.out.later hb2)).mono ?_
  rintro e w3 ⟨rfl, ring3, R3, f3, hl3, hr3, hk3, ho3⟩
  have hb3 := hb2.trans (hk3.below hb2.size hgw (fun j e => by have := (hl2.block j e).1; omega))
  rw [hr2, show addL (Int.toNat 2) (addL (Int.toNat 2) [] exA) exB = [exA, exB] from rfl] at hr3
  clear hk2 ho2 hk3 ho3 hl1 hl2 hr2 hb1 hb2
  go_wp2_with fail
  refine (lbytes_any a0 a1 w3 hl3 (F0.out.later hb3)).mono ?_
  rintro e w4 ⟨v4, rfl, hb4, hown4⟩
  rw [hr3, show (Int.toNat 2) = 2 from rfl] at hown4
  have hB4 := chain hb3 hb4
  have hr4 := reads_of_owns hown4 (logL_wf (by intro Z hZ; simp at hZ; rcases hZ with rfl | rfl <;> rfl) (by decide) (by decide))
  obtain ⟨vb, vo, vc, rfl, -, -, -, -⟩ := hr4.plain (by rw [ex_len]; decide)
  have HR4 := hid hr4
  rw [ex_len]
  clear hown4 hb4 hb3 hl3 hr3 hr4
  go_wp2_with fail
  have q5 := heap_alloc_new w4 (.cells #[.int .i64 0, .slice none 0 0, .int .i64 0] 117)
  have hb5 := (Below.refl _ w4).alloc (Nat.le_refl _) (.cells #[.int .i64 0, .slice none 0 0, .int .i64 0] 117)
  obtain ⟨go, hgo⟩ : ∃ go, go = w4.heap.size := ⟨_, rfl⟩
  rw [← hgo] at q5 ⊢
  have HR5 := hid (HR4.out.later hb5)
  have hB5 := chain hB4 hb5
  generalize w4.alloc (.cells #[.int .i64 0, .slice none 0 0, .int .i64 0] 117) = w5 at *
  clear hb5 hgo hB4
  refine (lfind_nil 0 w5).mono ?_
  rintro e w6 ⟨rfl, hb6⟩
  have q6 := (hb6.block _ (lt_of_row q5)).trans q5
  have HR6 := hid (HR5.out.later hb6)
  have hB6 := chain hB5 hb6
  clear hb6 q5 hB5
  go_wp2_with (first | ((with_reducible refine at_op (.alloc 50) ?_); refine wpR_alloc rfl rfl ?_; intro g7 w7 hg7 hR7 hb7; have hl7 : w6.heap.size ≤ g7 := Nat.le_of_eq hg7.symm; clear hg7) | ((with_reducible refine at_op (.store 50 (.tmp 6) (.tmp 40)) ?_); refine wpR_put rfl (.tmp 6) (.tmp 40) rfl g7 w6.heap.size zeroR zeroR rfl rfl rfl rfl hR7 hl7 ?_; intro w8 hR8 hb8))
  have hb78 := hb7.trans hb8
  have q8 := (hb78.block _ (lt_of_row q6)).trans q6
  have HR8 := hid (HR6.out.later hb78)
  have hB8 := chain hB6 hb78
  clear hb7 hb8 hb78 q6 hB6 hR7 hR8 hl7
  refine (lfind_odd go _ _ 0 w8 q8).mono ?_
  rintro e w9 ⟨rfl, hb9⟩
  have q9 := (hb9.block _ (lt_of_row q8)).trans q8
  have HR9 := hid (HR8.out.later hb9)
  have hB9 := chain hB8 hb9
  clear hb9 q8 hB8
  go_wp2_with (first | ((with_reducible refine at_op (.alloc 50) ?_); refine wpR_alloc rfl rfl ?_; intro g10 w10 hg10 hR10 hb10; have hl10 : w9.heap.size ≤ g10 := Nat.le_of_eq hg10.symm; clear hg10) | ((with_reducible refine at_op (.store 50 (.tmp 8) (.tmp 45)) ?_); refine wpR_put rfl (.tmp 8) (.tmp 45) rfl g10 w9.heap.size zeroR zeroR rfl rfl rfl rfl hR10 hl10 ?_; intro w11 hR11 hb11))
  have hb1011 := hb10.trans hb11
  have q11 := (hb1011.block _ (lt_of_row q9)).trans q9
  have HR11 := hid (HR9.out.later hb1011)
  have hB11 := chain hB9 hb1011
  clear hb10 hb11 hb1011 q9 hB9 hR10 hR11 hl10
  rw [show (#[.int .i64 0, .int .i64 0, .int .i64 0, .int .i64 0, .int .i32 0, .int .i32 0, .int .i32 0, .int .i32 0, .int .i32 0, .int .i32 0, .int .i32 0] : Array Value) = rcells zeroR from rfl]
  refine (ladd_nil zeroR w11).mono ?_
  rintro e w12 ⟨rfl, hb12⟩
  have q12 := (hb12.block _ (lt_of_row q11)).trans q11
  have HR12 := hid (HR11.out.later hb12)
  have hB12 := chain hB11 hb12
  clear hb12 q11 hB11
  go_wp2_with fail
  rw [show (#[.int .i64 0, .int .i64 0, .int .i64 0, .int .i64 0, .int .i32 0, .int .i32 0, .int .i32 0, .int .i32 0, .int .i32 0, .int .i32 0, .int .i32 0] : Array Value) = rcells zeroR from rfl]
  refine (ladd_odd go _ _ zeroR w12 q12).mono ?_
  rintro e w13 ⟨rfl, hb13⟩
  have q13 := (hb13.block _ (lt_of_row q12)).trans q12
  have HR13 := hid (HR12.out.later hb13)
  have hB13 := chain hB12 hb13
  clear hb13 q12 hB12
  go_wp2_with fail
  refine (lall_nil w13).mono ?_
  rintro e w14 ⟨rfl, rfl⟩
  go_wp2_with fail
  refine (lall_odd go _ _ w13 q13).mono ?_
  rintro e w14 ⟨rfl, rfl⟩
  go_wp2_with fail
  refine (lbytes_nil w13).mono ?_
  rintro e w14 ⟨rfl, rfl⟩
  go_wp2_with fail
  refine (lbytes_odd go _ _ w13 q13).mono ?_
  rintro e w14 ⟨rfl, rfl⟩
  obtain ⟨vb', vo', vc', hv, -, -, -, hcell⟩ := HR13.out.plain (by rw [ex_len]; decide)
  obtain ⟨hv1, -, rfl⟩ := Value.slice.inj hv
  obtain ⟨rfl, rfl⟩ : vb = vb' ∧ vo = vo' := by injection hv1 with hv1; injection hv1 with h1 h2; exact ⟨h1, h2⟩
  have d37 : w13.cell? ⟨vb, vo + 37, none⟩ = some (.int .u8 128) := by rw [hcell 37 (by rw [ex_len]; decide)]; have := ex_at 37 128 (by decide) rfl; rw [List.getElem?_eq_getElem (by rw [ex_len]; decide)] at this; rw [Option.some.inj this]
  have d38 : w13.cell? ⟨vb, vo + 38, none⟩ = some (.int .u8 1) := by rw [hcell 38 (by rw [ex_len]; decide)]; have := ex_at 38 1 (by decide) rfl; rw [List.getElem?_eq_getElem (by rw [ex_len]; decide)] at this; rw [Option.some.inj this]
  have d41 : w13.cell? ⟨vb, vo + 41, none⟩ = some (.int .u8 1) := by rw [hcell 41 (by rw [ex_len]; decide)]; have := ex_at 41 1 (by decide) rfl; rw [List.getElem?_eq_getElem (by rw [ex_len]; decide)] at this; rw [Option.some.inj this]
  clear hv hv1 hcell q13 HR13
  go_wp2
  go_ret
  exact ⟨rfl, hB13⟩
end Go.Proofs.YtecbfegohdllbaaDoor
end
section
/- Layer 47 (log): same: a contract. -/
namespace Go.Proofs.YtecbfegohdllbaaDoor
open Go.RowKit
set_option linter.unusedVariables false
set_option linter.unusedSimpArgs false
theorem exec_eql_rep {o : Oper} {ρ : Operand → Value} {w : World} (x y : Operand) (t : TypeId) (ho : o.op = .binOp .eql 50 x y t) (X Y : List Int) (hX : X.length = 11) (hY : Y.length = 11) (hx : ρ x = .agg (rcells X)) (hy : ρ y = .agg (rcells Y)) :
    (execOp ρ o).run Tryd.prog w = .ok (.value (.bool (decide (X = Y)))) w := by
  unfold execOp
  simp only [ho, hx, hy]
  have h1 := guard_report .eql x y (rcells X) (rcells Y) w
  have h2 := eql_report X Y hX hY w
  rw [Sem.run_bind, Sem.run_bind, h1, Result.andThen_ok, h2, Result.andThen_ok, Sem.run_pure]
theorem same_arm (u v : Value) (L : List (List Int)) (w : World) (ha : RRow w u L) (hb : RRow w v L) (hl : ∀ Z ∈ L, Z.length = 11) (hm : L.length ≤ 1000000) : Calls Tryd.prog 45 #[u, v] w fun e w' => e = .returned (.bool true) ∧ Below w.heap.size w w' :=
  (rsame_any u v L L w ha hb hl hl rfl hm).mono (by rintro e w' ⟨rfl, h⟩; exact ⟨by simp, h⟩)
set_option maxRecDepth 100000 in
set_option maxHeartbeats 2000000 in
theorem same47 {M M' g gy room f : Nat} {ring u : Value} {R L : List (List Int)} (s : Int) (w : World) (hx : LG M g room ring R f w) (hy : RG M' gy room u L w) (hL : ringL R f = L) :
    Calls Tryd.prog 53 #[.pointer (some ⟨g, 0, none⟩), .pointer (some ⟨gy, 0, none⟩), .int .i64 s] w fun e w' => e = .returned (.bool true) ∧ Below w.heap.size w w' := by
  have F1 := hid (lfind_any s w hx)
  have F2 := hid (fun W (hW : Below w.heap.size w W) => rlfind_any s W (hy.below hW))
  have F3 := hid (fun W (hW : Below w.heap.size w W) => lall_any W (hx.below hW))
  rw [hL] at F1 F3
  obtain ⟨q0, q1, q3, q4, q5, q6, q7, q8⟩ := hy
  have hl11 : ∀ Z ∈ L, Z.length = 11 := fun Z hZ => (q5 Z hZ).1.1
  obtain ⟨ua, uc, rfl⟩ := own_slice q1
  have hgl := lt_of_row q0
  have Q0 := hid (fun W (hW : Below w.heap.size w W) => (hW.block gy hgl).trans q0)
  have RR := hid (fun W (hW : Below w.heap.size w W) => rrow_of_rows (ownsRow_below q1 hW : Rows' M' W _ L) hl11)
  have HL11 := hid hl11
  have HLN := hid (show L.length ≤ 1000000 by omega)
  have HZL := hid (findL_wf11 (s := s) hl11)
  clear hx q0 q1 q3 q4 q5 q6 q7 q8 hl11 hL
  generalize (findL L s).1 = Z at *
  generalize (findL L s).2 = fb at *
  go_enter Tryd.func53, Tryd.ntmps53
  go_wp2_with fail
  refine F1.out.mono ?_
  rintro e w1 ⟨rfl, hb1⟩
  go_wp2_with (first | ((with_reducible refine at_op (.alloc 50) ?_); refine wpR_alloc rfl rfl ?_; intro g7 w7 hg7 hR7 hb7; have hl7 : w1.heap.size ≤ g7 := Nat.le_of_eq hg7.symm; clear hg7) | ((with_reducible refine at_op (.store 50 (.tmp 7) (.tmp 15)) ?_); refine wpR_put rfl (.tmp 7) (.tmp 15) rfl g7 w1.heap.size Z zeroR HZL.out rfl rfl rfl hR7 hl7 ?_; intro w8 hR8 hb8))
  have hB8 := chain hb1 (hb7.trans hb8)
  have HR8 := hid hR8
  clear hb7 hb8 hR7 hR8 hl7 hb1 F1
  refine (F2.out w8 hB8).mono ?_
  rintro e w9 ⟨rfl, hb9⟩
  have hB9 := chain hB8 hb9
  have HR9 := hid (RB.later HR8.out hb9)
  clear hb9 HR8 hB8
  go_wp2_with (first | ((with_reducible refine at_op (.alloc 50) ?_); refine wpR_alloc rfl rfl ?_; intro g10 w10 hg10 hR10 hb10; have hl10 : w9.heap.size ≤ g10 := Nat.le_of_eq hg10.symm; clear hg10) | ((with_reducible refine at_op (.store 50 (.tmp 9) (.tmp 21)) ?_); refine wpR_put rfl (.tmp 9) (.tmp 21) rfl g10 w9.heap.size Z zeroR HZL.out rfl rfl rfl hR10 hl10 ?_; intro w11 hR11 hb11))
  have hb1011 := hb10.trans hb11
  have hB11 := chain hB9 hb1011
  have HR11 := hid (RB.later HR9.out hb1011)
  have HQ11 := hid hR11
  have qy := Q0.out w11 hB11
  have ky : w11.cell? ⟨gy, 1, none⟩ = some (.slice ua L.length uc) := (cell_of_row w11 gy 1 _ _ _ qy).trans rfl
  have hgy := lt_of_row qy
  clear hb10 hb11 hb1011 hR10 hR11 hl10 hB9 HR9 qy
  refine wp_region_F' (B := w11.heap.size) (n := 18) (l := #[false, false, false, false, false, false, false, false, false, false, false, false, false, false, false, false, false, false]) (by kernel_rfl) (by kernel_rfl) (by kernel_rfl) ?_
  refine wpAnyF_take (i := 0) (v := ?vp_0_1) (some 23) rfl rfl (by kernel_rfl) (by kernel_rfl) (by kernel_rfl) (fun _ _ _ h => h) (by rfl) ?hvp_0_1 ?restp_0_1
  case hvp_0_1 => (intro w' hb; go_simp; try with_reducible rfl)
  simp only [Act.put, List.setIfInBounds_toArray, List.set_cons_zero, List.set_cons_succ]
  refine wpAnyF_take (i := 2) (v := ?vp_2_2) (some 25) rfl rfl (by kernel_rfl) (by kernel_rfl) (by kernel_rfl) (fun _ _ _ h => h) (by rfl) ?hvp_2_2 ?restp_2_2
  case hvp_2_2 => (intro w' hb; go_simp; try with_reducible rfl)
  simp only [Act.put, List.setIfInBounds_toArray, List.set_cons_zero, List.set_cons_succ]
  refine wpAnyF_take (i := 3) (v := ?vp_3_3) (some 26) rfl rfl (by kernel_rfl) (by kernel_rfl) (by kernel_rfl) (fun _ _ _ h => h) (by rfl) ?hvp_3_3 ?restp_3_3
  case hvp_3_3 => (intro w' hb; go_simp; try with_reducible rfl)
  simp only [Act.put, List.setIfInBounds_toArray, List.set_cons_zero, List.set_cons_succ]
  refine wpAnyF_take (i := 4) (v := ?vp_4_4) (some 27) rfl rfl (by kernel_rfl) (by kernel_rfl) (by kernel_rfl) (fun _ _ _ h => h) (by rfl) ?hvp_4_4 ?restp_4_4
  case hvp_4_4 => (intro w' hb; go_simp; try with_reducible rfl)
  simp only [Act.put, List.setIfInBounds_toArray, List.set_cons_zero, List.set_cons_succ]
  refine wpAnyF_take (i := 5) (v := ?vp_5_5) (some 28) rfl rfl (by kernel_rfl) (by kernel_rfl) (by kernel_rfl) (fun _ _ _ h => h) (by rfl) ?hvp_5_5 ?restp_5_5
  case hvp_5_5 => (intro w' hb; (have hcw := (hb.cell (p := ⟨gy, 1, none⟩) hgy).trans ky; go_simp; try with_reducible rfl))
  simp only [Act.put, List.setIfInBounds_toArray, List.set_cons_zero, List.set_cons_succ]
  refine wpAnyF_alone (i := 1) rfl (by kernel_rfl) (by rfl) (fun K hK => ?_)
  go_simp
  refine (F3.out w11.drew hB11.drew).mono ?_
  rintro e w12 ⟨u12, rfl, hb12, hrow12⟩
  have hb : Below w11.heap.size w11.drew w12 := hb12.mono (by simp)
  have hB12 := hB11.trans ((Below.drewl hb).mono hB11.size)
  have hbA : Below w11.heap.size w11 w12 := Below.drewl hb
  have HR12 := hid (rrow_of_rows hrow12 HL11.out)
  refine hK.out _ _ hb ?_
  clear hK K
  simp only [List.setIfInBounds_toArray, List.set_cons_zero, List.set_cons_succ]
  refine wpAnyF_alone (i := 6) rfl (by kernel_rfl) (by rfl) (fun K hK => ?_)
  go_simp
  refine (same_arm _ _ L w12 HR12.out (RR.out w12 hB12) HL11.out HLN.out).mono ?_
  rintro e w13 ⟨rfl, hb13⟩
  have hb : Below w11.heap.size w12 w13 := hb13.mono (by have := hb12.size; simpa using this)
  have hB13 := chain hB12 hb13
  have hbAB := hbA.trans hb
  have HR13 := hid (RB.later HR11.out hbAB)
  have HQ13 := hid (RB.later HQ11.out hbAB)
  refine hK.out _ _ hb ?_
  clear hK K
  simp only [List.setIfInBounds_toArray, List.set_cons_zero, List.set_cons_succ]
  refine wpAnyF_take (i := 7) (v := ?vp_7_6) (some 30) rfl rfl (by kernel_rfl) (by kernel_rfl) (by kernel_rfl) (fun _ _ _ h => h) (by rfl) ?hvp_7_6 ?restp_7_6
  case hvp_7_6 => (intro w' hb; go_simp; try with_reducible rfl)
  simp only [Act.put, List.setIfInBounds_toArray, List.set_cons_zero, List.set_cons_succ]
  refine wpAnyF_take (i := 8) (v := ?vp_8_7) (some 31) rfl rfl (by kernel_rfl) (by kernel_rfl) (by kernel_rfl) (fun _ _ _ h => h) (by rfl) ?hvp_8_7 ?restp_8_7
  case hvp_8_7 => (intro w' hb; (refine exec_load_part (.tmp 7) ?_ ⟨g7, 0, none⟩ ?_ Z HZL.out ?_; rfl; rfl; (intro i x hj; rw [add_plain, Nat.zero_add]; exact (cell_of_row w' g7 i _ _ _ ((hb.block g7 (lt_of_row HR11.out)).trans HR13.out)).trans (by rw [← hj, Array.getElem?_toList]))))
  simp only [Act.put, List.setIfInBounds_toArray, List.set_cons_zero, List.set_cons_succ]
  refine wpAnyF_take (i := 9) (v := ?vp_9_8) (some 32) rfl rfl (by kernel_rfl) (by kernel_rfl) (by kernel_rfl) (fun _ _ _ h => h) (by rfl) ?hvp_9_8 ?restp_9_8
  case hvp_9_8 => (intro w' hb; (refine exec_load_part (.tmp 9) ?_ ⟨g10, 0, none⟩ ?_ Z HZL.out ?_; rfl; rfl; (intro i x hj; rw [add_plain, Nat.zero_add]; exact (cell_of_row w' g10 i _ _ _ ((hb.block g10 (lt_of_row HQ11.out)).trans HQ13.out)).trans (by rw [← hj, Array.getElem?_toList]))))
  simp only [Act.put, List.setIfInBounds_toArray, List.set_cons_zero, List.set_cons_succ]
  refine wpAnyF_take (i := 10) (v := ?vp_10_9) (some 33) rfl rfl (by kernel_rfl) (by kernel_rfl) (by kernel_rfl) (fun _ _ _ h => h) (by rfl) ?hvp_10_9 ?restp_10_9
  case hvp_10_9 => (intro w' hb; (refine exec_eql_rep (.tmp 31) (.tmp 32) 50 ?_ Z Z HZL.out HZL.out ?_ ?_; rfl; rfl; rfl))
  simp only [Act.put, List.setIfInBounds_toArray, List.set_cons_zero, List.set_cons_succ]
  refine wpAnyF_take (i := 11) (v := ?vp_11_10) (some 34) rfl rfl (by kernel_rfl) (by kernel_rfl) (by kernel_rfl) (fun _ _ _ h => h) (by rfl) ?hvp_11_10 ?restp_11_10
  case hvp_11_10 => (intro w' hb; go_simp; try with_reducible rfl)
  simp only [Act.put, List.setIfInBounds_toArray, List.set_cons_zero, List.set_cons_succ]
  refine wpAnyF_take (i := 12) (v := ?vp_12_11) (some 35) rfl rfl (by kernel_rfl) (by kernel_rfl) (by kernel_rfl) (fun _ _ _ h => h) (by rfl) ?hvp_12_11 ?restp_12_11
  case hvp_12_11 => (intro w' hb; go_simp; try with_reducible rfl)
  simp only [Act.put, List.setIfInBounds_toArray, List.set_cons_zero, List.set_cons_succ]
  refine wpAnyF_take (i := 13) (v := ?vp_13_12) (some 36) rfl rfl (by kernel_rfl) (by kernel_rfl) (by kernel_rfl) (fun _ _ _ h => h) (by rfl) ?hvp_13_12 ?restp_13_12
  case hvp_13_12 => (intro w' hb; go_simp; try with_reducible rfl)
  simp only [Act.put, List.setIfInBounds_toArray, List.set_cons_zero, List.set_cons_succ]
  refine wpAnyF_take (i := 14) (v := ?vp_14_13) (some 37) rfl rfl (by kernel_rfl) (by kernel_rfl) (by kernel_rfl) (fun _ _ _ h => h) (by rfl) ?hvp_14_13 ?restp_14_13
  case hvp_14_13 => (intro w' hb; go_simp; try with_reducible rfl)
  simp only [Act.put, List.setIfInBounds_toArray, List.set_cons_zero, List.set_cons_succ]
  refine wpAnyF_take (i := 15) (v := ?vp_15_14) (some 38) rfl rfl (by kernel_rfl) (by kernel_rfl) (by kernel_rfl) (fun _ _ _ h => h) (by rfl) ?hvp_15_14 ?restp_15_14
  case hvp_15_14 => (intro w' hb; go_simp; try with_reducible rfl)
  simp only [Act.put, List.setIfInBounds_toArray, List.set_cons_zero, List.set_cons_succ]
  refine wpAnyF_take (i := 16) (v := ?vp_16_15) (some 39) rfl rfl (by kernel_rfl) (by kernel_rfl) (by kernel_rfl) (fun _ _ _ h => h) (by rfl) ?hvp_16_15 ?restp_16_15
  case hvp_16_15 => (intro w' hb; go_simp; try with_reducible rfl)
  simp only [Act.put, List.setIfInBounds_toArray, List.set_cons_zero, List.set_cons_succ]
  refine wpAnyF_take (i := 17) (v := ?vp_17_16) (some 6) rfl rfl (by kernel_rfl) (by kernel_rfl) (by kernel_rfl) (fun _ _ _ h => h) (by rfl) ?hvp_17_16 ?restp_17_16
  case hvp_17_16 => (intro w' hb; go_simp; try with_reducible rfl)
  simp only [Act.put, List.setIfInBounds_toArray, List.set_cons_zero, List.set_cons_succ]
  refine wpAnyF_done (by kernel_rfl) ?_ _
  go_wp2
  go_ret
  exact ⟨by simp, hB13⟩
end Go.Proofs.YtecbfegohdllbaaDoor
end
