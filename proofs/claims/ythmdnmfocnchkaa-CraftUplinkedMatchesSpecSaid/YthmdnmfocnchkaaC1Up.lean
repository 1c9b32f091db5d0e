/- What Uplinked's parts compute, on both sides: the bytes of an order, its sign, the packet with its sum. -/
-- Made by wip/tools/claimp.py of this session's texts; Lean checks it.
import Derived.Test.YthmdnmfocnchkaaC1Ev
import Derived.Laws.Bits64b
import Derived.Test.YthmdnmfocnchkaaC1Gu3
import Derived.Test.YthmdnmfocnchkaaC1Gu6
set_option linter.unusedVariables false
set_option linter.unusedSimpArgs false
namespace Go.Proofs.Ythmdnmfocnchkaa.Q
open Go.RowKit Go.Proofs.YthmdnmfocnchkaaW.PrintWords Go.Proofs.YthmdnmfocnchkaaW.PrintLast Go.Proofs.YthmdnmfocnchkaaW.PrintMore Go.Proofs.Ythmdnmfocnchkaa.Base
theorem rd_at {l : List Int} {i : Nat} (h : i < l.length) : rd l (i : Int) = l[i] := by
  unfold rd
  simp [List.getD_eq_getElem?_getD, List.getElem?_eq_getElem h]
theorem fold_at {α : Type} (f : α → Int → α) {l : List Int} {i : Nat} (h : i < l.length) (a : α) : (l.drop i).foldl f a = (l.drop (i + 1)).foldl f (f a (rd l (i : Int))) := by
  rw [List.drop_eq_getElem_cons h, List.foldl_cons, rd_at h]
theorem fold_end {α : Type} (f : α → Int → α) (l : List Int) (a : α) : (l.drop l.length).foldl f a = a := by
  rw [List.drop_length, List.foldl_nil]
def eightL (x : Int) : List Int := [shr .u64 x 56 % 256, shr .u64 x 48 % 256, shr .u64 x 40 % 256, shr .u64 x 32 % 256, shr .u64 x 24 % 256, shr .u64 x 16 % 256, shr .u64 x 8 % 256, shr .u64 x 0 % 256]
theorem eightL_len (x : Int) : (eightL x).length = 8 := rfl
theorem command_eight_ev (x : Int) : Ev (fun k => command_eight.f k x) (eightL x) := by
  refine ⟨12, fun k hk => ?_⟩
  obtain ⟨j, rfl⟩ : ∃ j, k = j + 12 := ⟨k - 12, by omega⟩
  simp [command_eight.f, command_eight.l0, eightL, wrap64]
theorem perigeeref5_eight_ev (x : Int) : Ev (fun k => perigeeref5_eight.f k x) (eightL x) := by
  refine ⟨12, fun k hk => ?_⟩
  obtain ⟨j, rfl⟩ : ∃ j, k = j + 12 := ⟨k - 12, by omega⟩
  simp [perigeeref5_eight.f, perigeeref5_eight.l0, eightL, wrap64, List.replicate, List.set]
def sg (h x : Int) : Int := IntKind.u64.wrap ((Go.bits .xor .u64 h (IntKind.u64.wrap x)) * 1099511628211)
theorem command_sign_l0 (l : List Int) (hl : l.length < 1000) : ∀ d i : Nat, i + d = l.length → ∀ h : Int, Ev (fun k => command_sign.l0 k h l (l.length : Int) (i : Int)) ((l.drop i).foldl sg h) := by
  intro d
  induction d with
  | zero =>
    intro i hi h
    obtain rfl : i = l.length := by omega
    refine Ev.step (fun k => command_sign.l0.eq_2 ..) ?_
    simp only [if_neg (show ¬ (l.length : Int) < (l.length : Int) by omega), fold_end]
    exact Ev.now _
  | succ d ih =>
    intro i hi h
    have hlt : i < l.length := by omega
    refine Ev.step (fun k => command_sign.l0.eq_2 ..) ?_
    simp only [if_pos (show (i : Int) < (l.length : Int) by omega), if_pos (show (0 : Int) ≤ (i : Int) by omega), w64 (x := (i : Int) + 1) (by omega) (by omega)]
    rw [fold_at sg hlt]
    exact ih (i + 1) (by omega) _
theorem perigeeref5_sign_l0 (l : List Int) (hl : l.length < 1000) : ∀ d i : Nat, i + d = l.length → ∀ h : Int, Ev (fun k => perigeeref5_sign.l0 k h l (l.length : Int) (i : Int)) ((l.drop i).foldl sg h) := by
  intro d
  induction d with
  | zero =>
    intro i hi h
    obtain rfl : i = l.length := by omega
    refine Ev.step (fun k => perigeeref5_sign.l0.eq_2 ..) ?_
    simp only [if_neg (show ¬ (l.length : Int) < (l.length : Int) by omega), fold_end]
    exact Ev.now _
  | succ d ih =>
    intro i hi h
    have hlt : i < l.length := by omega
    refine Ev.step (fun k => perigeeref5_sign.l0.eq_2 ..) ?_
    simp only [if_pos (show (i : Int) < (l.length : Int) by omega), if_pos (show (0 : Int) ≤ (i : Int) by omega), w64 (x := (i : Int) + 1) (by omega) (by omega)]
    rw [fold_at sg hlt]
    exact ih (i + 1) (by omega) _
def signV (key : Int) (b : List Int) : Int := (eightL (IntKind.u64.wrap key) ++ b ++ eightL (IntKind.u64.wrap key)).foldl sg 14695981039346656037
theorem cat3 (a b c : List Int) (h : (a ++ b ++ c).length < 1000) : slices_Concat_byte_byte.f [a, b, c] = some (a ++ b ++ c) := by
  unfold slices_Concat_byte_byte.f
  have e : [a, b, c].flatten = a ++ b ++ c := by simp
  rw [e, if_pos ⟨by omega, by simp⟩]
theorem cat4 (a b c d : List Int) (h : (a ++ b ++ c ++ d).length < 2000) : slices_Concat_byte_byte.f [a, b, c, d] = some (a ++ b ++ c ++ d) := by
  unfold slices_Concat_byte_byte.f
  have e : [a, b, c, d].flatten = a ++ b ++ c ++ d := by simp
  rw [e, if_pos ⟨by omega, by simp⟩]
theorem command_sign_ev (key : Int) (b : List Int) (hb : b.length < 900) : Ev (fun k => command_sign.f k key b) (signV key b) := by
  have hl : (eightL (IntKind.u64.wrap key) ++ b ++ eightL (IntKind.u64.wrap key)).length < 1000 := by simp [eightL_len]; omega
  unfold command_sign.f
  refine Ev.bind (command_eight_ev _) ?_
  simp only [cat3 _ _ _ hl, Option.bind_some]
  have := command_sign_l0 _ hl _ 0 (Nat.zero_add _) 14695981039346656037
  rw [List.drop_zero] at this
  exact this
theorem perigeeref5_sign_ev (key : Int) (b : List Int) (hb : b.length < 900) : Ev (fun k => perigeeref5_sign.f k key b) (signV key b) := by
  have hl : (eightL (IntKind.u64.wrap key) ++ b ++ eightL (IntKind.u64.wrap key)).length < 1000 := by simp [eightL_len]; omega
  unfold perigeeref5_sign.f
  refine Ev.bind (perigeeref5_eight_ev _) ?_
  simp only [cat3 _ _ _ hl, Option.bind_some]
  have := perigeeref5_sign_l0 _ hl _ 0 (Nat.zero_add _) 14695981039346656037
  rw [List.drop_zero] at this
  exact this
theorem i64_small {n : Nat} (h : n < 1099511627776) : IntKind.i64.wrap (n : Int) = n := by
  simp [IntKind.wrap, IntKind.bits, IntKind.signed]
  omega
theorem bx (a b : Nat) (ha : a < 1099511627776) (hb : b < 1099511627776) : Go.bits .xor .i64 (a : Int) (b : Int) = ((a ^^^ b : Nat) : Int) := by
  have hx : a ^^^ b < 2 ^ 40 := Nat.xor_lt_two_pow (by omega) (by omega)
  have h1 : (BitVec.ofInt 64 (a : Int)).toNat = a := by
    rw [BitVec.ofInt_natCast, BitVec.toNat_ofNat]; exact Nat.mod_eq_of_lt (by omega)
  have h2 : (BitVec.ofInt 64 (b : Int)).toNat = b := by
    rw [BitVec.ofInt_natCast, BitVec.toNat_ofNat]; exact Nat.mod_eq_of_lt (by omega)
  show IntKind.i64.wrap ((BitVec.ofInt 64 (a : Int) ^^^ BitVec.ofInt 64 (b : Int)).toNat : Int) = _
  rw [BitVec.toNat_xor, h1, h2, i64_small (by omega)]
theorem ba (a b : Nat) (ha : a < 1099511627776) (hb : b < 1099511627776) : Go.bits .and .i64 (a : Int) (b : Int) = ((a &&& b : Nat) : Int) := by
  have hx : a &&& b < 2 ^ 40 := Nat.and_lt_two_pow _ (by omega)
  have h1 : (BitVec.ofInt 64 (a : Int)).toNat = a := by
    rw [BitVec.ofInt_natCast, BitVec.toNat_ofNat]; exact Nat.mod_eq_of_lt (by omega)
  have h2 : (BitVec.ofInt 64 (b : Int)).toNat = b := by
    rw [BitVec.ofInt_natCast, BitVec.toNat_ofNat]; exact Nat.mod_eq_of_lt (by omega)
  show IntKind.i64.wrap ((BitVec.ofInt 64 (a : Int) &&& BitVec.ofInt 64 (b : Int)).toNat : Int) = _
  rw [BitVec.toNat_and, h1, h2, i64_small (by omega)]
theorem and_pow (a i : Nat) : a &&& 2 ^ i = (a / 2 ^ i % 2) * 2 ^ i := by
  have e : (a &&& 2 ^ i) % 2 ^ i = 0 := by
    rw [Nat.and_mod_two_pow, Nat.mod_self, Nat.and_zero]
  have d : (a &&& 2 ^ i) / 2 ^ i = a / 2 ^ i % 2 := by
    rw [← Nat.shiftRight_eq_div_pow, Nat.shiftRight_and_distrib, Nat.shiftRight_eq_div_pow, Nat.shiftRight_eq_div_pow, Nat.div_self (Nat.two_pow_pos i), Nat.and_one_is_mod]
  have := Nat.div_add_mod (a &&& 2 ^ i) (2 ^ i)
  rw [e, d, Nat.add_zero, Nat.mul_comm] at this
  exact this.symm
/-- One round of a sum. -/
def crcB (s : Nat) : Nat := if s < 32768 then s * 2 else (s * 2) ^^^ 69665
theorem xor_high {a : Nat} (h1 : 65536 ≤ a) (h2 : a < 131072) : a ^^^ 69665 = (a - 65536) ^^^ 4129 ∧ a ^^^ 69665 < 65536 := by
  have e : (a ^^^ 69665) % 2 ^ 16 = (a - 65536) ^^^ 4129 := by
    rw [Nat.xor_mod_two_pow, show a % 2 ^ 16 = a - 65536 by omega, show 69665 % 2 ^ 16 = 4129 from rfl]
  have d : (a ^^^ 69665) / 2 ^ 16 = 0 := by
    rw [← Nat.shiftRight_eq_div_pow, Nat.shiftRight_xor_distrib, Nat.shiftRight_eq_div_pow, show a / 2 ^ 16 = 1 by omega]
    rfl
  constructor <;> omega
theorem crcB_lt {s : Nat} (h : s < 65536) : crcB s < 65536 := by
  unfold crcB
  split
  · omega
  · exact (xor_high (by omega) (by omega)).2
theorem and_16 {s : Nat} (h : s < 65536) : ((s * 2) &&& 65536 = 0) ↔ s < 32768 := by
  have := and_pow (s * 2) 16
  simp only [show (2 : Nat) ^ 16 = 65536 from rfl] at this
  rw [this]
  omega
theorem and_15 {s : Nat} (h : s < 65536) : (s &&& 32768 = 0) ↔ s < 32768 := by
  have := and_pow s 15
  simp only [show (2 : Nat) ^ 15 = 32768 from rfl] at this
  rw [this]
  omega
theorem and_low (a : Nat) : a &&& 65535 = a % 65536 := Nat.and_two_pow_sub_one_eq_mod a 16
def crcN : Nat → Nat → Nat
  | 0, s => s
  | n + 1, s => crcN n (crcB s)
theorem crcN_lt : ∀ n {s : Nat}, s < 65536 → crcN n s < 65536
  | 0, _, h => h
  | n + 1, _, h => crcN_lt n (crcB_lt h)
theorem packet_Sum_l1 {xs : List Int} {n i : Int} {r : Int} : ∀ d j : Nat, j + d = 8 → ∀ s : Nat, s < 65536 → Ev (fun k => packet_Sum.l0 k (crcN d s : Nat) xs n (wrap64 (i + 1))) r → Ev (fun k => packet_Sum.l1 k (s : Int) xs n i (j : Int)) r := by
  intro d
  induction d with
  | zero =>
    intro j hj s hs h
    refine Ev.step (fun k => packet_Sum.l1.eq_2 ..) ?_
    simp only [if_neg (show ¬ (j : Int) < 8 by omega)]
    exact h
  | succ d ih =>
    intro j hj s hs h
    have q := ih (j + 1) (by omega) (crcB s) (crcB_lt hs) h
    have e2 : (s : Int) * 2 = ((s * 2 : Nat) : Int) := by omega
    refine Ev.step (fun k => packet_Sum.l1.eq_2 ..) ?_
    simp only [if_pos (show (j : Int) < 8 by omega), w64 (x := (j : Int) + 1) (by omega) (by omega), e2, w64 (x := ((s * 2 : Nat) : Int)) (by omega) (by omega)]
    rw [show (65536 : Int) = ((65536 : Nat) : Int) from rfl, show (69665 : Int) = ((69665 : Nat) : Int) from rfl]
    rw [ba (s * 2) 65536 (by omega) (by omega), bx (s * 2) 69665 (by omega) (by omega)]
    have ha := and_16 hs
    unfold crcB at q
    by_cases hc : s < 32768
    · rw [if_pos hc] at q
      simp only [if_pos (show (((s * 2) &&& 65536 : Nat) : Int) = 0 by have := ha.2 hc; omega)]
      exact q
    · rw [if_neg hc] at q
      simp only [if_neg (show ¬ (((s * 2) &&& 65536 : Nat) : Int) = 0 by have := mt ha.1 hc; omega)]
      exact q
theorem perigeeref1_Sum_l1 {xs : List Int} {n i : Int} {r : Int} : ∀ d j : Nat, j + d = 8 → ∀ s : Nat, s < 65536 → Ev (fun k => perigeeref1_Sum.l0 k (crcN d s : Nat) xs n (wrap64 (i + 1))) r → Ev (fun k => perigeeref1_Sum.l1 k (s : Int) xs n i (j : Int)) r := by
  intro d
  induction d with
  | zero =>
    intro j hj s hs h
    refine Ev.step (fun k => perigeeref1_Sum.l1.eq_2 ..) ?_
    simp only [if_neg (show ¬ (j : Int) < 8 by omega)]
    exact h
  | succ d ih =>
    intro j hj s hs h
    have q := ih (j + 1) (by omega) (crcB s) (crcB_lt hs) h
    have e2 : (s : Int) * 2 = ((s * 2 : Nat) : Int) := by omega
    refine Ev.step (fun k => perigeeref1_Sum.l1.eq_2 ..) ?_
    simp only [if_pos (show (j : Int) < 8 by omega), w64 (x := (j : Int) + 1) (by omega) (by omega), e2, w64 (x := ((s * 2 : Nat) : Int)) (by omega) (by omega)]
    rw [show (65535 : Int) = ((65535 : Nat) : Int) from rfl, show (32768 : Int) = ((32768 : Nat) : Int) from rfl, show (4129 : Int) = ((4129 : Nat) : Int) from rfl]
    rw [ba s 32768 (by omega) (by omega), ba (s * 2) 65535 (by omega) (by omega), and_low, bx (s * 2 % 65536) 4129 (by omega) (by omega)]
    have ha := and_15 hs
    unfold crcB at q
    by_cases hc : s < 32768
    · rw [if_pos hc] at q
      simp only [if_pos (show ((s &&& 32768 : Nat) : Int) = 0 by have := ha.2 hc; omega), show s * 2 % 65536 = s * 2 by omega]
      exact q
    · rw [if_neg hc, (xor_high (a := s * 2) (by omega) (by omega)).1] at q
      simp only [if_neg (show ¬ ((s &&& 32768 : Nat) : Int) = 0 by have := mt ha.1 hc; omega), show s * 2 % 65536 = s * 2 - 65536 by omega]
      exact q
def crcX (s : Nat) (x : Int) : Nat := crcN 8 (s ^^^ (x.toNat * 256))
def BytesL (l : List Int) : Prop := ∀ x ∈ l, 0 ≤ x ∧ x < 256
theorem crcX_in {s : Nat} {x : Int} (hs : s < 65536) (hx : 0 ≤ x ∧ x < 256) : s ^^^ (x.toNat * 256) < 65536 := Nat.xor_lt_two_pow (n := 16) hs (by omega)
theorem crcX_lt {s : Nat} {x : Int} (hs : s < 65536) (hx : 0 ≤ x ∧ x < 256) : crcX s x < 65536 := crcN_lt 8 (crcX_in hs hx)
theorem crc_step {s : Nat} {x : Int} (hs : s < 65536) (hx : 0 ≤ x ∧ x < 256) : Go.bits .xor .i64 (s : Int) (wrap64 (wrap64 x * 256)) = ((s ^^^ (x.toNat * 256) : Nat) : Int) := by
  rw [w64 (x := x) (by omega) (by omega), w64 (x := x * 256) (by omega) (by omega), show x * 256 = ((x.toNat * 256 : Nat) : Int) by omega, bx _ _ (by omega) (by omega)]
theorem BytesL.rd {l : List Int} (h : BytesL l) {i : Nat} (hi : i < l.length) : 0 ≤ rd l (i : Int) ∧ rd l (i : Int) < 256 := by
  rw [rd_at hi]
  exact h _ (List.getElem_mem hi)
theorem packet_Sum_l0 (l : List Int) (hb : BytesL l) (hl : l.length < 100000) : ∀ d i : Nat, i + d = l.length → ∀ s : Nat, s < 65536 → Ev (fun k => packet_Sum.l0 k (s : Int) l (l.length : Int) (i : Int)) (((l.drop i).foldl crcX s : Nat) : Int) := by
  intro d
  induction d with
  | zero =>
    intro i hi s hs
    obtain rfl : i = l.length := by omega
    refine Ev.step (fun k => packet_Sum.l0.eq_2 ..) ?_
    simp only [if_neg (show ¬ (l.length : Int) < (l.length : Int) by omega), fold_end]
    exact Ev.now _
  | succ d ih =>
    intro i hi s hs
    have hlt : i < l.length := by omega
    have hx := hb.rd hlt
    refine Ev.step (fun k => packet_Sum.l0.eq_2 ..) ?_
    simp only [if_pos (show (i : Int) < (l.length : Int) by omega), if_pos (show (0 : Int) ≤ (i : Int) by omega), crc_step hs hx]
    refine packet_Sum_l1 8 0 rfl _ (crcX_in hs hx) ?_
    rw [fold_at crcX hlt, w64 (x := (i : Int) + 1) (by omega) (by omega)]
    exact ih (i + 1) (by omega) _ (crcX_lt hs hx)
theorem perigeeref1_Sum_l0 (l : List Int) (hb : BytesL l) (hl : l.length < 100000) : ∀ d i : Nat, i + d = l.length → ∀ s : Nat, s < 65536 → Ev (fun k => perigeeref1_Sum.l0 k (s : Int) l (l.length : Int) (i : Int)) (((l.drop i).foldl crcX s : Nat) : Int) := by
  intro d
  induction d with
  | zero =>
    intro i hi s hs
    obtain rfl : i = l.length := by omega
    refine Ev.step (fun k => perigeeref1_Sum.l0.eq_2 ..) ?_
    simp only [if_neg (show ¬ (l.length : Int) < (l.length : Int) by omega), fold_end]
    exact Ev.now _
  | succ d ih =>
    intro i hi s hs
    have hlt : i < l.length := by omega
    have hx := hb.rd hlt
    refine Ev.step (fun k => perigeeref1_Sum.l0.eq_2 ..) ?_
    simp only [if_pos (show (i : Int) < (l.length : Int) by omega), if_pos (show (0 : Int) ≤ (i : Int) by omega), crc_step hs hx]
    refine perigeeref1_Sum_l1 8 0 rfl _ (crcX_in hs hx) ?_
    rw [fold_at crcX hlt, w64 (x := (i : Int) + 1) (by omega) (by omega)]
    exact ih (i + 1) (by omega) _ (crcX_lt hs hx)
def crcV (l : List Int) : Int := ((l.foldl crcX 65535 : Nat) : Int)
theorem packet_Sum_ev (l : List Int) (hb : BytesL l) (hl : l.length < 100000) : Ev (fun k => packet_Sum.f k l) (crcV l) := by
  have := packet_Sum_l0 l hb hl _ 0 (Nat.zero_add _) 65535 (by omega)
  rw [List.drop_zero] at this
  exact this
theorem perigeeref1_Sum_ev (l : List Int) (hb : BytesL l) (hl : l.length < 100000) : Ev (fun k => perigeeref1_Sum.f k l) (crcV l) := by
  have := perigeeref1_Sum_l0 l hb hl _ 0 (Nat.zero_add _) 65535 (by omega)
  rw [List.drop_zero] at this
  exact this
theorem BytesL.app {a b : List Int} (h : BytesL a) (k : BytesL b) : BytesL (a ++ b) := fun x hx => (List.mem_append.1 hx).elim (h x) (k x)
theorem BytesL.eight (x : Int) : BytesL (eightL x) := by
  intro y hy
  simp only [eightL, List.mem_cons, List.not_mem_nil, or_false] at hy
  rcases hy with rfl | rfl | rfl | rfl | rfl | rfl | rfl | rfl <;> constructor <;> omega
def twoL (x : Int) : List Int := [x / 256 % 256, x % 256]
theorem BytesL.two (x : Int) : BytesL (twoL x) := by
  intro y hy
  simp only [twoL, List.mem_cons, List.not_mem_nil, or_false] at hy
  rcases hy with rfl | rfl <;> constructor <;> omega
theorem BytesL.of (s : ByteArray) : BytesL (bytesOf s) := by
  intro y hy
  simp only [bytesOf, List.mem_map] at hy
  obtain ⟨b, _, rfl⟩ := hy
  have := b.toNat_lt
  constructor <;> omega
def ordV (n : Int) (b : List Int) : List Int × Int := if b.length = 0 then ([], 9) else if b.length > 200 then ([], 2) else (1 :: n :: b, 0)
theorem command_OrderBytes_ev {n : Int} (h0 : 0 ≤ n) (h1 : n ≤ 255) (b : List Int) : Ev (fun k => command_OrderBytes.f k 1 n b) (ordV n b) := by
  refine ⟨5, fun k hk => ?_⟩
  obtain ⟨j, rfl⟩ : ∃ j, k = j + 5 := ⟨k - 5, by omega⟩
  unfold ordV
  by_cases e0 : b.length = 0
  · simp [command_OrderBytes.f, command_checkOrder.f, command_checkOrder.j0, command_checkOrder.j1, command_checkOrder.j2, kit_In.f, command_checkBody.f, h0, h1, e0]
  · by_cases e1 : b.length > 200
    · simp [command_OrderBytes.f, command_checkOrder.f, command_checkOrder.j0, command_checkOrder.j1, command_checkOrder.j2, kit_In.f, command_checkBody.f, h0, h1, e0, e1, show (b.length : Int) > 200 by omega, show (200 : Int) < (b.length : Int) by omega, show ¬ (b.length : Int) = 0 by omega]
    · simp [command_OrderBytes.f, command_checkOrder.f, command_checkOrder.j0, command_checkOrder.j1, command_checkOrder.j2, kit_In.f, command_checkBody.f, h0, h1, e0, e1, show ¬ (b.length : Int) > 200 by omega, show ¬ (200 : Int) < (b.length : Int) by omega, show ¬ (b.length : Int) = 0 by omega, show n % 256 = n by omega, show ¬ 200 < b.length by omega, show 2 + b.length < 140737488355328 by omega, show b.length + 1 + 1 < 140737488355328 by omega]
theorem perigeeref5_OrderBytes_ev {n : Int} (h0 : 0 ≤ n) (h1 : n ≤ 255) (b : List Int) : Ev (fun k => perigeeref5_OrderBytes.f k 1 n b) (ordV n b) := by
  refine ⟨5, fun k hk => ?_⟩
  obtain ⟨j, rfl⟩ : ∃ j, k = j + 5 := ⟨k - 5, by omega⟩
  unfold ordV
  by_cases e0 : b.length = 0
  · by_cases en : n = 0 <;> simp [perigeeref5_OrderBytes.f, perigeeref5_checkOrder.f, perigeeref5_checkOrder.j0, perigeeref5_checkOrder.j1, perigeeref5_within.f, perigeeref5_hasBody.f, perigeeref5_hasNumber.f, perigeeref5_checkBody.f, h0, h1, e0, en]
  · by_cases e1 : b.length > 200
    · by_cases en : n = 0 <;> simp [perigeeref5_OrderBytes.f, perigeeref5_checkOrder.f, perigeeref5_checkOrder.j0, perigeeref5_checkOrder.j1, perigeeref5_within.f, perigeeref5_hasBody.f, perigeeref5_hasNumber.f, perigeeref5_checkBody.f, h0, h1, e0, e1, en, show (b.length : Int) > 200 by omega, show (200 : Int) < (b.length : Int) by omega, show ¬ (b.length : Int) = 0 by omega]
    · by_cases en : n = 0 <;> simp [perigeeref5_OrderBytes.f, perigeeref5_checkOrder.f, perigeeref5_checkOrder.j0, perigeeref5_checkOrder.j1, perigeeref5_within.f, perigeeref5_hasBody.f, perigeeref5_hasNumber.f, perigeeref5_checkBody.f, h0, h1, e0, e1, en, show ¬ (b.length : Int) > 200 by omega, show ¬ (200 : Int) < (b.length : Int) by omega, show ¬ (b.length : Int) = 0 by omega, show n % 256 = n by omega, show ¬ 200 < b.length by omega, show 2 + b.length < 140737488355328 by omega, show b.length + 1 + 1 < 140737488355328 by omega]
end Go.Proofs.Ythmdnmfocnchkaa.Q
