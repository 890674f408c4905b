/- What the functions of package crc return: contracts. -/
import Derived.Test.YtecbfegohdllbaaDoorWord
import Derived.Test.YtecbfegohdllbaaDoorCrcMath
import Derived.Test.YtecbfegohdllbaaDoorOwn
import Derived.Laws.EntriesVeiled
import Derived.Deep.AppendSrc
namespace Go.Proofs.YtecbfegohdllbaaDoor
open Go.RowKit
theorem ofInt32_nat (a : Nat) : (BitVec.ofInt 32 (a : Int)) = BitVec.ofNat 32 a := BitVec.ofInt_natCast 32 a
theorem i32_nat (v : BitVec 32) (h : v.toNat < 2147483648) : IntKind.i32.wrap (v.toNat : Int) = (v.toNat : Int) := by rw [i32wrap]; omega
theorem i32_xor (a b : Nat) (ha : a < 2147483648) (hb : b < 2147483648) : bits .xor .i32 (a : Int) (b : Int) = ((a ^^^ b : Nat) : Int) := by
  unfold bits
  show IntKind.i32.wrap (((BitVec.ofInt 32 (a : Int) ^^^ BitVec.ofInt 32 (b : Int)) : BitVec 32).toNat : Int) = _
  rw [ofInt32_nat a, ofInt32_nat b]
  have hx : a ^^^ b < 2 ^ 31 := Nat.xor_lt_two_pow (by omega) (by omega)
  have e : (BitVec.ofNat 32 a ^^^ BitVec.ofNat 32 b).toNat = a ^^^ b := by
    rw [BitVec.toNat_xor, BitVec.toNat_ofNat, BitVec.toNat_ofNat, Nat.mod_eq_of_lt (by omega), Nat.mod_eq_of_lt (by omega)]
  rw [i32_nat _ (by rw [e]; omega), e]
theorem i32_and (a b : Nat) (ha : a < 2147483648) (hb : b < 2147483648) : bits .and .i32 (a : Int) (b : Int) = ((a &&& b : Nat) : Int) := by
  unfold bits
  show IntKind.i32.wrap (((BitVec.ofInt 32 (a : Int) &&& BitVec.ofInt 32 (b : Int)) : BitVec 32).toNat : Int) = _
  rw [ofInt32_nat a, ofInt32_nat b]
  have e : (BitVec.ofNat 32 a &&& BitVec.ofNat 32 b).toNat = a &&& b := by
    rw [BitVec.toNat_and, BitVec.toNat_ofNat, BitVec.toNat_ofNat, Nat.mod_eq_of_lt (by omega), Nat.mod_eq_of_lt (by omega)]
  rw [i32_nat _ (by rw [e]; exact Nat.lt_of_le_of_lt Nat.and_le_left ha), e]
/-- the table lies where the program has laid it -/
def Four (w : World) : Prop := ∀ i : Nat, i < 16 → w.cell? ⟨0, i, none⟩ = some (.int .i32 (tab i))
theorem lt_of_cell {w : World} {b o : Nat} {v : Value} (h : w.cell? ⟨b, o, none⟩ = some v) : b < w.heap.size := by
  simp only [World.cell?] at h
  split at h
  · rename_i hb; exact (Array.getElem?_eq_some_iff.1 hb).1
  · cases h
theorem Four.later {w w' : World} (h : Four w) (hb : Below w.heap.size w w') : Four w' := fun i hi => by
  rw [hb.cell (p := ⟨0, i, none⟩) (lt_of_cell (h i hi))]; exact h i hi
theorem tab_lt (i : Nat) : tab i < 65536 := by
  unfold tab
  by_cases h : i < 16
  · have : ∀ j : Fin 16, tabL.getD j.val 0 < 65536 := by decide
    exact this ⟨i, h⟩
  · have : tabL[i]? = none := List.getElem?_eq_none (by simp [tabL]; omega)
    simp [List.getD, this]
theorem nib_toNat (c : BitVec 16) (n : Nat) (hn : n < 16) : (nib c n).toNat = (c.toNat * 16 ^^^ tab ((c.toNat / 4096 ^^^ n) &&& 15)) &&& 65535 := by
  have hc := c.isLt
  have e1 : ((c >>> 12) ^^^ BitVec.ofNat 16 n).toNat = (c.toNat / 4096 ^^^ n) &&& 15 := by
    have hx : c.toNat / 4096 ^^^ n < 2 ^ 4 := Nat.xor_lt_two_pow (by omega) (by omega)
    rw [BitVec.toNat_xor, BitVec.toNat_ushiftRight, Nat.shiftRight_eq_div_pow, BitVec.toNat_ofNat, Nat.mod_eq_of_lt (by omega), show (15 : Nat) = 2 ^ 4 - 1 from rfl, Nat.and_two_pow_sub_one_eq_mod, Nat.mod_eq_of_lt hx]
  unfold nib
  rw [BitVec.toNat_xor, e1, BitVec.toNat_shiftLeft, Nat.shiftLeft_eq, BitVec.toNat_ofNat, show (65535 : Nat) = 2 ^ 16 - 1 from rfl, Nat.and_two_pow_sub_one_eq_mod, Nat.xor_mod_two_pow]
theorem nibble_any (c : BitVec 16) (n : Nat) (hn : n < 16) (w : World) (h4 : Four w) :
    Calls Tryd.prog 60 #[.int .i32 c.toNat, .int .i32 n] w fun e w' => e = .returned (.int .i32 (nib c n).toNat) ∧ w = w' := by
  have hc := c.isLt
  have e1 : bits .xor .i32 ((c.toNat : Int) / 4096) (n : Int) = ((c.toNat / 4096 ^^^ n : Nat) : Int) := by
    have := i32_xor (c.toNat / 4096) n (by omega) (by omega)
    rw [← this]; simp
  have hx : c.toNat / 4096 ^^^ n < 2 ^ 4 := Nat.xor_lt_two_pow (by omega) (by omega)
  have e2 : bits .and .i32 ((c.toNat / 4096 ^^^ n : Nat) : Int) 15 = (((c.toNat / 4096 ^^^ n) &&& 15 : Nat) : Int) := i32_and _ 15 (by omega) (by omega)
  have hj : (c.toNat / 4096 ^^^ n) &&& 15 < 16 := Nat.lt_of_le_of_lt Nat.and_le_right (by decide)
  have hf := h4 _ hj
  have e3 := nib_toNat c n hn
  generalize (c.toNat / 4096 ^^^ n) &&& 15 = j at *
  generalize c.toNat / 4096 ^^^ n = m at *
  have ht := tab_lt j
  have e4 : bits .xor .i32 ((c.toNat : Int) * 16) (tab j : Int) = ((c.toNat * 16 ^^^ tab j : Nat) : Int) := by
    have := i32_xor (c.toNat * 16) (tab j) (by omega) (by omega)
    rw [← this]; simp
  have hx2 : c.toNat * 16 ^^^ tab j < 2 ^ 20 := Nat.xor_lt_two_pow (by omega) (by omega)
  have e5 : bits .and .i32 ((c.toNat * 16 ^^^ tab j : Nat) : Int) 65535 = (((c.toNat * 16 ^^^ tab j) &&& 65535 : Nat) : Int) := i32_and _ 65535 (by omega) (by omega)
  rw [← e3] at e5
  clear e3 h4
  go_enter Tryd.func60, Tryd.ntmps60
  go_wp2
  go_ret
  exact ⟨rfl, rfl⟩
theorem step_any (c : BitVec 16) (b : Nat) (hb : b < 256) (w : World) (h4 : Four w) :
    Calls Tryd.prog 24 #[.int .i32 c.toNat, .int .u8 b] w fun e w' => e = .returned (.int .i32 (stepB c b).toNat) ∧ w = w' := by
  have hc := c.isLt
  have e1 : bits .and .i32 (c.toNat : Int) 65535 = (c.toNat : Int) := by
    have := i32_and c.toNat 65535 (by omega) (by omega)
    rw [show (65535 : Int) = ((65535 : Nat) : Int) from rfl, this, show (65535 : Nat) = 2 ^ 16 - 1 from rfl, Nat.and_two_pow_sub_one_eq_mod, Nat.mod_eq_of_lt hc]
  have e2 : bits .and .u8 (b : Int) 15 = ((b % 16 : Nat) : Int) := by
    have := u8_and_nat b 15 hb (by omega)
    rw [show (15 : Int) = ((15 : Nat) : Int) from rfl, this, show (15 : Nat) = 2 ^ 4 - 1 from rfl, Nat.and_two_pow_sub_one_eq_mod]
  have e3 : (b : Int) / 16 = ((b / 16 : Nat) : Int) := by omega
  have n1 := fun w h4 => nibble_any c (b / 16) (by omega) w h4
  have n2 := fun w h4 => nibble_any (nib c (b / 16)) (b % 16) (by omega) w h4
  rw [← stepB_nibs c b hb] at n2
  rw [← e3] at n1
  have N1 := hid n1
  have N2 := hid n2
  clear n1 n2 e3
  go_enter Tryd.func24, Tryd.ntmps24
  go_wp2_with fail
  refine (N1.out _ h4).mono ?_
  rintro e w2 ⟨rfl, rfl⟩
  go_wp2_with fail
  refine (N2.out _ h4).mono ?_
  rintro e w2 ⟨rfl, rfl⟩
  go_wp2
  go_ret
  exact ⟨rfl, rfl⟩
theorem crc_snoc (c : BitVec 16) (l : List Int) (k : Nat) (h : k < l.length) : crcFrom c (l.take (k + 1)) = stepB (crcFrom c (l.take k)) l[k] := by
  unfold crcFrom
  rw [List.take_succ_eq_append_getElem h, List.foldl_append]; rfl
theorem add_any (C : BitVec 16) (v : Value) (l : List Int) (B : Nat) (w0 w : World) (hw : Below w0.heap.size w0 w) (hr : Reads .u8 w0 v l) (h4 : Four w0) (hB : w0.heap.size ≤ B)
    (hc : w.cell? ⟨B, 0, none⟩ = some (.int .i32 C.toNat)) (hf : w.frozen? ⟨B, 0, none⟩ = false) :
    Calls Tryd.prog 93 #[v, .pointer (some ⟨B, 0, none⟩)] w fun e w' => e = .returned (.int .i32 (crcFrom C l).toNat) ∧ Below w0.heap.size w0 w' := by
  by_cases hl : 0 < l.length
  · obtain ⟨b, off, cap, rfl, h1, h2, hlt, hcell⟩ := hr.plain hl
    have hu : ∀ x ∈ l, 0 ≤ x ∧ x ≤ 255 := by obtain ⟨_, _, _, _, _, h3, _⟩ := hr; exact fun x hx => bd_u8 (h3 x hx)
    have h2' : l.length ≤ 9223372036854775807 := by unfold maxLen at h2; omega
    have Hw := hid hw
    have HU := hid hu
    have H4 := hid h4
    clear hw h4 hr hu
    go_enter Tryd.func93, Tryd.ntmps93
    go_wp2_with fail
    go_loopw [8] (fun i wr => ∃ k : Nat, k ≤ l.length ∧ i = .int .i64 k ∧ wr.cell? ⟨B, 0, none⟩ = some (.int .i32 (crcFrom C (l.take k)).toNat) ∧ wr.frozen? ⟨B, 0, none⟩ = false ∧ Below w0.heap.size w0 wr) (fun i _ => l.length - (intOf i).toNat)
    case atStart => exact ⟨0, Nat.zero_le _, rfl, hc, hf, Hw.out⟩
    case round =>
      obtain ⟨k, hk, rfl, hck, hfk, hwr⟩ := hrel
      by_cases hlt2 : k < l.length
      · have hkc : wr.cell? ⟨b, off + k, none⟩ = some (.int .u8 l[k]) := (hwr.cell (p := ⟨b, off + k, none⟩) hlt).trans (hcell k hlt2)
        have hx := HU.out l[k] (List.getElem_mem hlt2)
        obtain ⟨x, hxx⟩ : ∃ x : Nat, l[k] = (x : Int) := ⟨l[k].toNat, by omega⟩
        have hs := crc_snoc C l k hlt2
        rw [hxx] at hkc hs hx
        have st := fun w h => step_any (crcFrom C (l.take k)) x (by omega) w h
        rw [← hs] at st
        have ST := hid st
        clear st hs hxx hcell
        go_wp2_with fail
        refine (ST.out _ (H4.out.later hwr)).mono ?_
        rintro e w2 ⟨rfl, rfl⟩
        go_wp2
        go_roundw
        case rel => exact ⟨k + 1, by omega, by go_num, World.cell?_setCell_same' _ _ _ (by rw [hck]; rfl), by rw [World.frozen?_setCell]; exact hfk, hwr.setCell (p := ⟨B, 0, none⟩) hB _⟩
        case measure => simp [intOf]; omega
      · obtain rfl : k = l.length := by omega
        rw [List.take_length] at hck
        go_wp2
        go_ret
        exact ⟨rfl, hwr⟩
  · obtain rfl : l = [] := List.length_eq_zero_iff.1 (by omega)
    obtain ⟨a, cap, rfl, _⟩ := hr
    have Hw := hid hw
    clear hw h4
    simp only [List.length_nil]
    go_enter Tryd.func93, Tryd.ntmps93
    go_wp2_with fail
    go_rounds 1
    go_ret
    exact ⟨rfl, Hw.out⟩
theorem sum_do (v : Value) (l : List Int) (w0 : World) (hr : Reads .u8 w0 v l) (h4 : Four w0) : ∀ w, Below w0.heap.size w0 w → ∀ B, w0.heap.size ≤ B → w.cell? ⟨B, 0, none⟩ = some (.int .i32 65535) → w.frozen? ⟨B, 0, none⟩ = false →
    Calls Tryd.prog 93 #[v, .pointer (some ⟨B, 0, none⟩)] w fun e w' => e = .returned (.int .i32 (crcOf l).toNat) ∧ Below w0.heap.size w0 w' :=
  fun w hw B hB hc hf => add_any 65535#16 v l B w0 w hw hr h4 hB hc hf
theorem of_any (v : Value) (l : List Int) (w : World) (hr : Reads .u8 w v l) (h4 : Four w) :
    Calls Tryd.prog 20 #[v] w fun e w' => e = .returned (.int .i32 (crcOf l).toNat) ∧ Below w.heap.size w w' := by
  have H := hid (fun w' hw B hB hc hf => add_any 65535#16 v l B w w' hw hr h4 hB hc hf)
  clear hr h4
  go_enter Tryd.func20, Tryd.ntmps20
  go_wp2_with (first | (go_at_call 93; refine (H.out _ ?_ _ ?_ ?_ ?_).mono ?_) | (go_at_call 59; go_in))
  · go_grown
  · omega
  · go_simp
  · go_simp
  · rintro e w' ⟨rfl, hb⟩
    go_wp2
    go_ret
    exact ⟨rfl, hb⟩
def hiB (c : BitVec 16) : Int := (c.toNat : Int) / 256
def loB (c : BitVec 16) : Int := (c.toNat : Int) % 256
def sealL (l : List Int) : List Int := l ++ [hiB (crcOf l), loB (crcOf l)]
theorem seal_any (v : Value) (l : List Int) (w : World) (hr : Reads .u8 w v l) (h4 : Four w) (hl : l.length ≤ 1000000) :
    Calls Tryd.prog 27 #[v] w fun e w' => ∃ v', e = .returned v' ∧ Below w.heap.size w w' ∧ w'.ownsRow w.heap.size 5 1 v' (l.length + 2) (vU8 (sealL l)) := by
  obtain ⟨i0, hi, hz0, hz1, hz2⟩ := info_parts Tryd.infoU8
  have O := hid (of_any v l w hr h4)
  have R := hid (fun w' (hb : Below w.heap.size w w') => hr.later hb)
  clear hr h4
  have hc := (crcOf l).isLt
  go_enter Tryd.func27, Tryd.ntmps27
  go_wp2_with fail
  refine O.out.mono ?_
  rintro e w1 ⟨rfl, hb1⟩
  have R1 := hid (R.out w1 hb1)
  go_wp2_with (at_builtin; refine wpList_append_reads rfl _ _ 22 rfl w.heap.size 5 i0 (.int .u8 0) .u8 1 Tryd.underlying22 hi hz0 hz1 hz2 rfl _ _ _ rfl (ownsRow_empty ?cs ?c0) v l rfl ?c1 ?c2 ?c3 ?c4 ?_)
  case cs => rfl
  case c0 => exact hb1.size
  case c1 => exact R.out _ (hb1.alloc hb1.size _)
  case c2 => simp [maxLen]; omega
  case c3 => omega
  case c4 => have := hb1.size; simp; omega
  intro v1 w2 hown2 hg2
  have hb2 : Below w.heap.size w w2 := (hb1.alloc hb1.size _).grown hg2 (by have := hb1.size; simp; omega) (fun k e => by simp [Value.ownBlock] at e; have := hb1.size; omega)
  have hz2' := hb2.size
  go_wp2_with (at_builtin; refine wpList_append_own _ rfl _ _ 22 rfl w.heap.size 5 i0 (.int .u8 0) 1 1 Tryd.underlying22 hi hz0 hz1 hz2 rfl (by decide) _ _ _ rfl (hown2.alloc _) ⟨w2.heap.size, 0, none⟩ 2 2 [.int .u8 (hiB (crcOf l)), .int .u8 (loB (crcOf l))] rfl rfl ?d3 ?d4 ?d5 ?d6 ?d7 ?_)
  case d3 =>
    intro j u h
    rcases j with _ | _ | j <;> simp at h <;> subst h <;> go_simp <;> rfl
  case d4 => simp [Value.oneCell']
  case d5 => simp [maxLen]; omega
  case d6 => omega
  case d7 => simp; omega
  intro v3 w3 hown3 hg3 _
  have hb3 : Below w.heap.size w w3 := (hb2.alloc hb2.size _).grown hg3 (by simp; omega) (fun k e => (hown2.lt k e).1)
  go_wp2
  go_ret
  exact ⟨v3, rfl, hb3, by simpa [vU8, sealL] using hown3⟩
theorem open_short (a : Option Addr) (n c : Nat) (w : World) (hn : n < 2) :
    Calls Tryd.prog 22 #[.slice a n c] w fun e w' => e = .returned (.tuple #[.slice none 0 0, .int .i64 4]) ∧ w = w' := by
  go_enter Tryd.func22, Tryd.ntmps22
  go_wp2
  go_ret2
  exact ⟨rfl, rfl⟩
theorem open_bad (v : Value) (l : List Int) (m : Nat) (hm : l.length = m + 2) (w : World) (hr : Reads .u8 w v l) (h4 : Four w) (hbad : l ≠ sealL (l.take m)) :
    Calls Tryd.prog 22 #[v] w fun e w' => e = .returned (.tuple #[.slice none 0 0, .int .i64 7]) ∧ Below w.heap.size w w' := by
  obtain ⟨b, off, c, rfl, h1, h2, hlt, hcell⟩ := hr.plain (by omega)
  have hc := (crcOf (l.take m)).isLt
  have hu : ∀ x ∈ l, 0 ≤ x ∧ x ≤ 255 := by obtain ⟨_, _, _, _, _, h3, _⟩ := hr; exact fun x hx => bd_u8 (h3 x hx)
  have hx0 := hu l[m] (List.getElem_mem (by omega))
  have hx1 := hu l[m + 1] (List.getElem_mem (by omega))
  have c0 := hcell m (by omega)
  have c1 := hcell (m + 1) (by omega)
  have hrt := hr.take m (by omega)
  have A := sum_do _ (l.take m) w hrt h4
  have hd : ((crcOf (l.take m)).toNat : Int) / 256 ≠ l[m] ∨ ((crcOf (l.take m)).toNat : Int) / 256 = l[m] ∧ ((crcOf (l.take m)).toNat : Int) % 256 ≠ l[m + 1] := by
    by_cases e1 : ((crcOf (l.take m)).toNat : Int) / 256 = l[m]
    · by_cases e2 : ((crcOf (l.take m)).toNat : Int) % 256 = l[m + 1]
      · refine absurd ?_ hbad
        unfold sealL hiB loB
        rw [e1, e2]
        conv => lhs; rw [← List.take_append_drop m l]
        congr 1
        rw [List.drop_eq_getElem_cons (by omega), List.drop_eq_getElem_cons (by omega), List.drop_eq_nil_of_le (by omega)]
      · exact .inr ⟨e1, e2⟩
    · exact .inl e1
  have h2' : m + 2 ≤ 9223372036854775807 := by unfold maxLen at h2; omega
  have hmc : m ≤ c := by omega
  clear hr h4 hrt hu hcell hbad
  generalize crcOf (l.take m) = C at *
  generalize l[m] = x0 at *
  generalize l[m + 1] = x1 at *
  rw [hm] at *
  clear hm
  replace A := hid A
  rcases hd with e1 | ⟨e1, e2⟩
  · have t1 : ((C.toNat : Int) / 256 != x0) = true := by simp; exact e1
    clear e1
    go_enter Tryd.func22, Tryd.ntmps22
    go_wp2_with (first | (go_at_call 93; refine (A.out _ ?_ _ ?_ ?_ ?_).mono ?_) | (go_at_call 59; go_in))
    · go_grown
    · omega
    · go_simp
    · go_simp
    · rintro e w1 ⟨rfl, hb⟩
      obtain ⟨hcc, hff⟩ := bcell hb
      go_wp2
      go_ret2
      exact ⟨rfl, hb⟩
  · have t1 : ((C.toNat : Int) / 256 != x0) = false := by simp; exact e1
    have t2 : ((C.toNat : Int) % 256 != x1) = true := by simp; exact e2
    clear e1 e2
    go_enter Tryd.func22, Tryd.ntmps22
    go_wp2_with (first | (go_at_call 93; refine (A.out _ ?_ _ ?_ ?_ ?_).mono ?_) | (go_at_call 59; go_in))
    · go_grown
    · omega
    · go_simp
    · go_simp
    · rintro e w1 ⟨rfl, hb⟩
      obtain ⟨hcc, hff⟩ := bcell hb
      go_wp2
      go_ret2
      exact ⟨rfl, hb⟩
set_option maxRecDepth 20000 in
theorem open_ok (v : Value) (l : List Int) (m : Nat) (hm : l.length = m + 2) (w : World) (hr : Reads .u8 w v l) (h4 : Four w) (hok : l = sealL (l.take m)) (hl : l.length ≤ 1000000) :
    Calls Tryd.prog 22 #[v] w fun e w' => ∃ v', e = .returned (.tuple #[v', .int .i64 0]) ∧ Below w.heap.size w w' ∧ w'.ownsRow w.heap.size 5 1 v' m (vU8 (l.take m)) := by
  obtain ⟨i0, hi, hz0, hz1, hz2⟩ := info_parts Tryd.infoU8
  obtain ⟨b, off, c, rfl, h1, h2, hlt, hcell⟩ := hr.plain (by omega)
  have hc := (crcOf (l.take m)).isLt
  have c0 := hcell m (by omega)
  have c1 := hcell (m + 1) (by omega)
  have hrt := hr.take m (by omega)
  have A := sum_do _ (l.take m) w hrt h4
  have R := hid (fun w' (hb : Below w.heap.size w w') => hrt.later hb)
  have htl : (l.take m).length = m := by simp; omega
  have e1 : l[m] = ((crcOf (l.take m)).toNat : Int) / 256 := by
    have : l[m]? = some (hiB (crcOf (l.take m))) := by
      conv => lhs; rw [hok]
      unfold sealL
      rw [List.getElem?_append_right (by omega), htl]; simp
    rw [List.getElem?_eq_getElem (by omega)] at this
    exact Option.some.inj this
  have e2 : l[m + 1] = ((crcOf (l.take m)).toNat : Int) % 256 := by
    have : l[m + 1]? = some (loB (crcOf (l.take m))) := by
      conv => lhs; rw [hok]
      unfold sealL
      rw [List.getElem?_append_right (by omega), htl]; simp
    rw [List.getElem?_eq_getElem (by omega)] at this
    exact Option.some.inj this
  have hu : ∀ x ∈ l, 0 ≤ x ∧ x ≤ 255 := by obtain ⟨_, _, _, _, _, h3, _⟩ := hr; exact fun x hx => bd_u8 (h3 x hx)
  have hx0 := hu l[m] (List.getElem_mem (by omega))
  have hx1 := hu l[m + 1] (List.getElem_mem (by omega))
  have h2' : m + 2 ≤ 9223372036854775807 := by unfold maxLen at h2; omega
  have hmc : m ≤ c := by omega
  have hm6 : m ≤ 1000000 := by omega
  clear hr h4 hrt hcell hok hu
  generalize crcOf (l.take m) = C at *
  generalize l[m] = x0 at *
  generalize l[m + 1] = x1 at *
  have t1 : ((C.toNat : Int) / 256 != x0) = false := by simp [e1]
  have t2 : ((C.toNat : Int) % 256 != x1) = false := by simp [e2]
  clear e1 e2
  generalize hlm : l.take m = lm at *
  clear hlm
  rw [hm] at *
  clear hm
  replace A := hid A
  have HL := hid htl
  have H6 := hid hm6
  clear htl hm6 hl
  go_enter Tryd.func22, Tryd.ntmps22
  go_wp2_with (first | (go_at_call 93; refine (A.out _ ?_ _ ?_ ?_ ?_).mono ?_) | (go_at_call 59; go_in))
  · go_grown
  · omega
  · go_simp
  · go_simp
  · rintro e w1 ⟨rfl, hb⟩
    obtain ⟨hcc, hff⟩ := bcell hb
    go_wp2_with (at_builtin; refine wpList_append_reads rfl _ _ 22 rfl w.heap.size 5 i0 (.int .u8 0) .u8 1 Tryd.underlying22 hi hz0 hz1 hz2 rfl _ _ _ rfl (ownsRow_empty ?cs ?c0) _ lm rfl ?c1 ?c2 ?c3 ?c4 ?_)
    case cs => rfl
    case c0 => exact hb.size
    case c1 => exact R.out _ (hb.alloc hb.size _)
    case c2 => have := H6.out; rw [HL.out]; simp [maxLen]; omega
    case c3 => have := H6.out; rw [HL.out]; omega
    case c4 => have := hb.size; simp; omega
    intro v2 w2 hown2 hg2
    have hb2 : Below w.heap.size w w2 := (hb.alloc hb.size _).grown hg2 (by have := hb.size; simp; omega) (fun k e => by simp [Value.ownBlock] at e; have := hb.size; omega)
    rw [HL.out] at hown2
    clear hcc hff
    go_wp2
    go_ret2
    exact ⟨v2, rfl, hb2, hown2⟩
end Go.Proofs.YtecbfegohdllbaaDoor
