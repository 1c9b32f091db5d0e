-- Made by wip/tools/claimp.py of this session's texts; Lean checks it.
import Derived.Test.YtbngmblgkkdhpaaDoorC3Q0
import Derived.Test.YtbngmblgkkdhpaaDoorC3Gd2
import Derived.Test.YtbngmblgkkdhpaaDoorC3Gd3
import Derived.Test.YtbngmblgkkdhpaaDoorC3Gd7
namespace Go.Proofs.YtbngmblgkkdhpaaDoor.Q
open Go.RowKit Go.Proofs.YtbngmblgkkdhpaaDoorW.PrintWords Go.Proofs.YtbngmblgkkdhpaaDoorW.PrintLast Go.Proofs.YtbngmblgkkdhpaaDoorW.PrintMore
attribute [local go_sem] max2_int min2_int max_two min_two max_three min_three max_four min_four
open Go.Proofs.YtbngmblgkkdhpaaDoor.Base
attribute [local go_sem high] str_leq str_gtr str_geq
set_option linter.unusedVariables false
set_option linter.unusedSimpArgs false
def RefTake (K : Nat) (line : ByteArray) (l : List S55) : Option (Bool × List S55) :=
  (strings_Split.f line ⟨#[32]⟩).bind fun t => if t.length < 3 then some (false, l) else
  (perigeeref2_Number.f K (rdOf ByteArray.empty t ((t.length - 2 : Nat) : Int)) 13).bind fun d => (perigeeref2_Number.f K (rdOf ByteArray.empty t ((t.length - 1 : Nat) : Int)) 13).bind fun e =>
  if d.2 = true then if e.2 = true then
    if t.length = 4 then
      if (rdOf ByteArray.empty t 0).toList = [112, 97, 115, 115] then (perigeeref10_row.f K (rdOf ByteArray.empty t 1)).bind fun ok => if ok = true then (if l.length < 1000000000 then some (true, l ++ [⟨rdOf ByteArray.empty t 1, d.1, e.1, []⟩]) else none) else some (false, l)
      else some (false, l)
    else if t.length = 3 then
      if (rdOf ByteArray.empty t 0).toList = [114, 97, 116, 101] then if l.length = 0 then some (false, l) else (if l.length < 1000000000 ∧ (lastP l).f3.length < 1000000000 then some (true, addStep l ⟨d.1, e.1⟩) else none)
      else some (false, l)
    else some (false, l)
  else some (false, l) else some (false, l)
def RefLines : Nat → ByteArray → List S55 → Int → Option (List S55 × Int × Int)
  | 0, _, _, _ => none
  | k + 1, x, l, n => if x.toList = ([] : List UInt8) then (perigeeref10_CheckPasses.f k l).bind fun f => if f = 0 then some (l, 0, 0) else some ([], 0, f)
    else (strings_Cut.f x ⟨#[10]⟩).bind fun c => if c.2.2 = true then (RefTake k c.1 l).bind fun r => if r.1 = true then RefLines k c.2.1 r.2 (wrap64 (n + 1)) else some ([], n, 10) else (strings_Split.f c.1 ⟨#[32]⟩).bind fun _ => some ([], n, 10)
def perigeeref10_Read.f (k : Nat) (a0 : ByteArray) : Option (List S55 × Int × Int) := if (a0.size : Int) > 200000 then some ([], 0, 2) else RefLines k a0 [] 1
theorem d12a {p : Prop} (h : p := by repeat (first | exact Below.refl _ _ | exact HI1.out.bel | apply pw_below_drewN)) : p := h
theorem d12b {p : Prop} (h : p := by repeat (first | exact HI.out.bel | apply pw_below_drewN)) : p := h
theorem d12c {p : Prop} (h : p := by have := HL.out; have := HM1.out; have := HM2.out; omega) : p := h
set_option maxHeartbeats 16000000 in
set_option maxRecDepth 100000 in
theorem perigeeref10_Read.calls (k : Nat) (a0 : ByteArray) (r1 : List S55) (r2 r3 : Int) (w : World) (hV : VarsOK w) (h : perigeeref10_Read.f k a0 = some (r1, r2, r3)) :
 Calls Tryd.prog 12 #[.string a0] w fun e w' => ∃ v0_ : Value, e = .returned (.tuple #[v0_, .int .i64 r2, .int .i64 r3]) ∧ Kd.S k55 55 w' w.heap.size (fun _ => True) v0_ r1 ∧ Below w.heap.size w w' := by
 have HV := Aside0.mk hV
 clear hV
 unfold perigeeref10_Read.f at h
 by_cases hs : (a0.size : Int) > 200000
 · rw [if_pos hs] at h
   have c1 : decide (200000 < (a0.size : Int)) = true := decide_eq_true hs
   have c2 : decide (200000 < a0.size) = true := decide_eq_true (by omega)
   clear hs
   simp only [Option.some.injEq, Prod.mk.injEq] at h
   obtain ⟨rfl, rfl, rfl⟩ := h
   go_enter Tryd.func12, Tryd.ntmps12
   go_wp2
   refine bodyPost_ret (results_list (rs := [.tmp 2, .tmp 3, .tmp 4]) rfl (by simp) (.tmp (.tmp (.tmp .nil)))) rfl ?_
   exact ⟨_, rfl, Kd.S_nil _ _ _ _ _, by repeat (first | exact Below.refl _ _ | exact Below.refl _ _ | apply pw_below_drewN)⟩
 · rw [if_neg hs] at h
   have c1 : decide (200000 < (a0.size : Int)) = false := decide_eq_false hs
   have c2 : decide (200000 < a0.size) = false := decide_eq_false (by omega)
   clear hs
   have H' := Aside0.mk h
   clear h
   have HI0 := Aside0.mk (TI.mk (w := w) (W := w) (W1 := w) (Kd.S_nil k55 55 w w.heap.size (fun _ => True)) (Below.refl _ _) (Stays.refl _))
   go_enter Tryd.func12, Tryd.ntmps12
   go_wp2
   go_loopg [0, 5, 6] k (fun kq v0 v5 v6 w' => ∃ (x : ByteArray) (l1 : List S55) (n : Int), v0 = .string x ∧ v6 = .int .i64 n ∧ Aside0 (RefLines kq x l1 n = some (r1, r2, r3)) ∧ Aside0 (kq ≤ k) ∧ Aside0 (TI w w w' v5 l1))
   case atStart => exact ⟨a0, [], 1, rfl, rfl, H', ⟨Nat.le_refl _⟩, HI0⟩
   case round =>
    clear H' HI0
    obtain ⟨x, l, n, rfl, rfl, HA, HK1, HI⟩ := hrel
    cases gk with
    | zero => exact absurd HA.out (by simp [RefLines])
    | succ k1 =>
     have H := HA.out
     clear HA
     simp only [RefLines] at H
     obtain ⟨Al, cl, el⟩ := Kd.S_slice HI.out.s
     subst el
     by_cases c3 : x.toList = ([] : List UInt8)
     · rw [if_pos c3] at H
       have c3b0 : (x.toList == ([] : List UInt8)) = true := beq_iff_eq.mpr c3
       have c3b1 : (x.toList != ([] : List UInt8)) = false := bne_eq_false_iff_eq.mpr c3
       clear c3
       replace H := Option.bind_eq_some_iff.mp H
       obtain ⟨f, hC, H⟩ := H
       have A2 := Aside0.mk hC
       clear hC
       by_cases hf : f = 0
       · rw [if_pos hf] at H
         subst hf
         simp only [Option.some.injEq, Prod.mk.injEq] at H
         obtain ⟨rfl, rfl, rfl⟩ := H
         go_wp2_with (go_at_call 33; go_loud (with_reducible refine (perigeeref10_CheckPasses.calls k1 _ _ l _ _ (Kd.S_reads' (by repeat (first | exact HI.out | apply TI.drewN) : TI w w _ (.slice Al l.length cl) l).s).2.2 (Kd.S_reads' (by repeat (first | exact HI.out | apply TI.drewN) : TI w w _ (.slice Al l.length cl) l).s).2.1 A2.out).mono ?_); rintro e w9 ⟨rfl, hb9⟩; have HY := Aside0.mk ((by repeat (first | exact HI.out | apply TI.drewN) : TI w w _ (.slice Al l.length cl) l).below hb9); clear hb9)
         refine bodyPost_ret (results_list (rs := [.tmp 2, .tmp 3, .tmp 4]) rfl (by simp) (.tmp (.tmp (.tmp .nil)))) rfl ?_
         exact ⟨_, rfl, by (with_reducible repeat (first | apply Kd.S_alloc | apply Kd.S_drewN | apply Kd.S_drew)); exact HY.out.s, by repeat (first | exact HY.out.bel | apply pw_below_drewN | apply below_drew | apply below_drew1)⟩
       · rw [if_neg hf] at H
         have c4 : (f != 0) = true := bne_iff_ne.mpr hf
         have c5 : (f == 0) = false := beq_eq_false_iff_ne.mpr hf
         clear hf
         simp only [Option.some.injEq, Prod.mk.injEq] at H
         obtain ⟨rfl, rfl, rfl⟩ := H
         go_wp2_with (go_at_call 33; go_loud (with_reducible refine (perigeeref10_CheckPasses.calls k1 _ _ l _ _ (Kd.S_reads' (by repeat (first | exact HI.out | apply TI.drewN) : TI w w _ (.slice Al l.length cl) l).s).2.2 (Kd.S_reads' (by repeat (first | exact HI.out | apply TI.drewN) : TI w w _ (.slice Al l.length cl) l).s).2.1 A2.out).mono ?_); rintro e w9 ⟨rfl, hb9⟩; have HY := Aside0.mk ((by repeat (first | exact HI.out | apply TI.drewN) : TI w w _ (.slice Al l.length cl) l).below hb9); clear hb9)
         refine bodyPost_ret (results_list (rs := [.tmp 2, .tmp 3, .tmp 4]) rfl (by simp) (.tmp (.tmp (.tmp .nil)))) rfl ?_
         exact ⟨_, rfl, Kd.S_nil _ _ _ _ _, by repeat (first | exact Below.refl _ _ | exact HY.out.bel | apply pw_below_drewN)⟩
     · rw [if_neg c3] at H
       have c3b0 : (x.toList == ([] : List UInt8)) = false := beq_eq_false_iff_ne.mpr c3
       have c3b1 : (x.toList != ([] : List UInt8)) = true := bne_iff_ne.mpr c3
       clear c3
       replace H := Option.bind_eq_some_iff.mp H
       obtain ⟨⟨line, rest, ends⟩, hcut, H⟩ := H
       have A0 := Aside0.mk hcut
       clear hcut
       dsimp only at H
       cases ends with
       | false =>
        rw [if_neg (by decide)] at H
        replace H := Option.bind_eq_some_iff.mp H
        obtain ⟨t, ht, H⟩ := H
        have A1 := Aside0.mk ht
        clear ht
        simp only [Option.some.injEq, Prod.mk.injEq] at H
        obtain ⟨rfl, rfl, rfl⟩ := H
        go_wp2_with (first | (go_at_call 34; go_loud (with_reducible refine (strings_Cut.calls x (⟨#[10]⟩ : ByteArray) line rest false _ (HV.out.below d12b) A0.out).mono ?_); rintro e w' ⟨rfl, ⟨nd, rfl⟩⟩) | (go_at_call 35; go_loud (with_reducible refine (strings_Split.calls line (⟨#[32]⟩ : ByteArray) t _ (HV.out.below d12b) A1.out).mono ?_); go_loud (rintro e w1 ⟨v, rfl, ho, hb⟩; have HI1 := Aside0.mk (((by repeat (first | exact HI.out | apply TI.drewN) : TI w w _ (.slice Al l.length cl) l)).below hb); obtain ⟨A9, c9, ev⟩ := Kd.R_slice ho; subst ev; clear ho hb; skip)))
        refine bodyPost_ret (results_list (rs := [.tmp 2, .tmp 3, .tmp 4]) rfl (by simp) (.tmp (.tmp (.tmp .nil)))) rfl ?_
        exact ⟨_, rfl, Kd.S_nil _ _ _ _ _, d12a⟩
       | true =>
        rw [if_pos rfl] at H
        replace H := Option.bind_eq_some_iff.mp H
        obtain ⟨⟨bb, l2⟩, h, H⟩ := H
        have HH := Aside0.mk H
        clear H
        unfold RefTake at h
        replace h := Option.bind_eq_some_iff.mp h
        obtain ⟨t, ht, h⟩ := h
        have A1 := Aside0.mk ht
        have HTL := Aside0.mk (split_len ht)
        clear ht
        by_cases hl : t.length < 3
        · rw [if_pos hl] at h
          have e := Option.some.inj h
          injection e with e1 e2
          subst e1 e2
          have H := HH.out
          rw [if_neg (show ¬ ((false, l) : Bool × _).1 = true by simp)] at H
          simp only [Option.some.injEq, Prod.mk.injEq] at H
          obtain ⟨rfl, rfl, rfl⟩ := H
          clear HH
          have d1 : decide ((t.length : Int) < 3) = true := decide_eq_true (by omega)
          have d1b : decide (t.length < 3) = true := decide_eq_true (by omega)
          clear hl
          go_wp2_with (first | (go_at_call 34; go_loud (with_reducible refine (strings_Cut.calls x (⟨#[10]⟩ : ByteArray) line rest true _ (HV.out.below d12b) A0.out).mono ?_); rintro e w' ⟨rfl, ⟨nd, rfl⟩⟩) | (go_at_call 35; go_loud (with_reducible refine (strings_Split.calls line (⟨#[32]⟩ : ByteArray) t _ (HV.out.below d12b) A1.out).mono ?_); go_loud (rintro e w1 ⟨v, rfl, ho, hb⟩; have HI1 := Aside0.mk (((by repeat (first | exact HI.out | apply TI.drewN) : TI w w _ (.slice Al l.length cl) l)).below hb); obtain ⟨A9, c9, ev⟩ := Kd.R_slice ho; subst ev; clear ho hb; skip)))
          refine bodyPost_ret (results_list (rs := [.tmp 2, .tmp 3, .tmp 4]) rfl (by simp) (.tmp (.tmp (.tmp .nil)))) rfl ?_
          exact ⟨_, rfl, Kd.S_nil _ _ _ _ _, d12a⟩
        rw [if_neg hl] at h
        replace hl : 3 ≤ t.length := by omega
        replace h := Option.bind_eq_some_iff.mp h
        obtain ⟨⟨a, oa⟩, hda, h⟩ := h
        replace h := Option.bind_eq_some_iff.mp h
        obtain ⟨⟨b, ob⟩, hdb, h⟩ := h
        dsimp only at h
        have HL := Aside0.mk hl
        have c1 : decide ((t.length : Int) < 3) = false := decide_eq_false (by omega)
        have c1b : decide (t.length < 3) = false := decide_eq_false (by omega)
        obtain ⟨m2, hm2⟩ : ∃ m : Nat, m = t.length - 2 := ⟨_, rfl⟩
        obtain ⟨m1, hm1⟩ : ∃ m : Nat, m = t.length - 1 := ⟨_, rfl⟩
        have w2 : IntKind.i64.wrap ((t.length : Int) - 2) = (m2 : Int) := by have := HTL.out; rw [i64_w]; unfold wrap64; omega
        have w1 : IntKind.i64.wrap ((t.length : Int) - 1) = (m1 : Int) := by have := HTL.out; rw [i64_w]; unfold wrap64; omega
        have w2b : wrap64 ((t.length : Int) - 2) = (m2 : Int) := by have := HTL.out; unfold wrap64; omega
        have w1b : wrap64 ((t.length : Int) - 1) = (m1 : Int) := by have := HTL.out; unfold wrap64; omega
        have HM2 := Aside0.mk hm2
        have HM1 := Aside0.mk hm1
        have q2 : (m2 < t.length) = True := eq_true (by omega)
        have q1 : (m1 < t.length) = True := eq_true (by omega)
        have q2i : ((m2 : Int) < (t.length : Int)) = True := eq_true (by omega)
        have q1i : ((m1 : Int) < (t.length : Int)) = True := eq_true (by omega)
        have qi0 : (0 < t.length) = True := eq_true (by omega)
        have qi1 : (1 < t.length) = True := eq_true (by omega)
        have q0 : ((0 : Int) < (t.length : Int)) = True := eq_true (by omega)
        have q1j : ((1 : Int) < (t.length : Int)) = True := eq_true (by omega)
        rw [← hm2] at hda
        rw [← hm1] at hdb
        have A3 := Aside0.mk hda
        have A4 := Aside0.mk hdb
        clear hda hdb
        clear hm2 hm1
        by_cases h1 : oa = true
        rotate_left
        · rw [if_neg h1] at h
          obtain rfl := Bool.eq_false_iff.mpr h1
          have e := Option.some.inj h
          injection e with e1 e2
          subst e1 e2
          have H := HH.out
          rw [if_neg (show ¬ ((false, l) : Bool × _).1 = true by simp)] at H
          simp only [Option.some.injEq, Prod.mk.injEq] at H
          obtain ⟨rfl, rfl, rfl⟩ := H
          clear HH
          clear hl
          go_wp2_with (first | (go_at_call 34; go_loud (with_reducible refine (strings_Cut.calls x (⟨#[10]⟩ : ByteArray) line rest true _ (HV.out.below d12b) A0.out).mono ?_); rintro e w' ⟨rfl, ⟨nd, rfl⟩⟩) | (go_at_call 35; go_loud (with_reducible refine (strings_Split.calls line (⟨#[32]⟩ : ByteArray) t _ (HV.out.below d12b) A1.out).mono ?_); go_loud (rintro e w1 ⟨v, rfl, ho, hb⟩; have HI1 := Aside0.mk (((by repeat (first | exact HI.out | apply TI.drewN) : TI w w _ (.slice Al l.length cl) l)).below hb); obtain ⟨A9, c9, ev⟩ := Kd.R_slice ho; subst ev; have HRD := Aside0.mk ((Kd.R_reads' ho).2.2); clear ho hb; obtain ⟨ad0, ea0, hx0⟩ := Kd.at_string HRD.out (m2 : Int) (by omega) d12c; cases ea0; (try simp only [Int.toNat_natCast] at hx0); obtain ⟨ad1, ea1, hx1⟩ := Kd.at_string HRD.out (m1 : Int) (by omega) d12c; cases ea1; (try simp only [Int.toNat_natCast] at hx1); obtain ⟨ad2, ea2, hx2⟩ := Kd.at_string HRD.out 0 (by omega) d12c; cases ea2; (try simp only [show (0 : Int).toNat = 0 from rfl, Nat.reduceMul, Nat.reduceEqDiff, Go.Addr.add, ↓reduceIte] at hx2); (try rw [show ((0 : Int)).toNat = 0 from rfl] at hx2); obtain ⟨ad3, ea3, hx3⟩ := Kd.at_string HRD.out 1 (by omega) d12c; cases ea3; (try simp only [show (1 : Int).toNat = 1 from rfl, Nat.reduceMul, Nat.reduceEqDiff, Go.Addr.add, ↓reduceIte] at hx3); (try rw [show ((1 : Int)).toNat = 1 from rfl] at hx3); skip)) | (go_at_call 36; go_loud (first | (with_reducible refine (perigeeref2_Number.calls k1 (rdOf ByteArray.empty t (m2 : Int)) 13 _ _ _ A3.out).mono ?_) | (with_reducible refine (perigeeref2_Number.calls k1 (rdOf ByteArray.empty t (m1 : Int)) 13 _ _ _ A4.out).mono ?_)); rintro e w' ⟨rfl, ⟨nd, rfl⟩⟩))
          refine bodyPost_ret (results_list (rs := [.tmp 2, .tmp 3, .tmp 4]) rfl (by simp) (.tmp (.tmp (.tmp .nil)))) rfl ?_
          exact ⟨_, rfl, Kd.S_nil _ _ _ _ _, d12a⟩
        rw [if_pos h1] at h
        subst h1
        by_cases h2 : ob = true
        rotate_left
        · rw [if_neg h2] at h
          obtain rfl := Bool.eq_false_iff.mpr h2
          have e := Option.some.inj h
          injection e with e1 e2
          subst e1 e2
          have H := HH.out
          rw [if_neg (show ¬ ((false, l) : Bool × _).1 = true by simp)] at H
          simp only [Option.some.injEq, Prod.mk.injEq] at H
          obtain ⟨rfl, rfl, rfl⟩ := H
          clear HH
          clear hl
          go_wp2_with (first | (go_at_call 34; go_loud (with_reducible refine (strings_Cut.calls x (⟨#[10]⟩ : ByteArray) line rest true _ (HV.out.below d12b) A0.out).mono ?_); rintro e w' ⟨rfl, ⟨nd, rfl⟩⟩) | (go_at_call 35; go_loud (with_reducible refine (strings_Split.calls line (⟨#[32]⟩ : ByteArray) t _ (HV.out.below d12b) A1.out).mono ?_); go_loud (rintro e w1 ⟨v, rfl, ho, hb⟩; have HI1 := Aside0.mk (((by repeat (first | exact HI.out | apply TI.drewN) : TI w w _ (.slice Al l.length cl) l)).below hb); obtain ⟨A9, c9, ev⟩ := Kd.R_slice ho; subst ev; have HRD := Aside0.mk ((Kd.R_reads' ho).2.2); clear ho hb; obtain ⟨ad0, ea0, hx0⟩ := Kd.at_string HRD.out (m2 : Int) (by omega) d12c; cases ea0; (try simp only [Int.toNat_natCast] at hx0); obtain ⟨ad1, ea1, hx1⟩ := Kd.at_string HRD.out (m1 : Int) (by omega) d12c; cases ea1; (try simp only [Int.toNat_natCast] at hx1); obtain ⟨ad2, ea2, hx2⟩ := Kd.at_string HRD.out 0 (by omega) d12c; cases ea2; (try simp only [show (0 : Int).toNat = 0 from rfl, Nat.reduceMul, Nat.reduceEqDiff, Go.Addr.add, ↓reduceIte] at hx2); (try rw [show ((0 : Int)).toNat = 0 from rfl] at hx2); obtain ⟨ad3, ea3, hx3⟩ := Kd.at_string HRD.out 1 (by omega) d12c; cases ea3; (try simp only [show (1 : Int).toNat = 1 from rfl, Nat.reduceMul, Nat.reduceEqDiff, Go.Addr.add, ↓reduceIte] at hx3); (try rw [show ((1 : Int)).toNat = 1 from rfl] at hx3); skip)) | (go_at_call 36; go_loud (first | (with_reducible refine (perigeeref2_Number.calls k1 (rdOf ByteArray.empty t (m2 : Int)) 13 _ _ _ A3.out).mono ?_) | (with_reducible refine (perigeeref2_Number.calls k1 (rdOf ByteArray.empty t (m1 : Int)) 13 _ _ _ A4.out).mono ?_)); rintro e w' ⟨rfl, ⟨nd, rfl⟩⟩))
          refine bodyPost_ret (results_list (rs := [.tmp 2, .tmp 3, .tmp 4]) rfl (by simp) (.tmp (.tmp (.tmp .nil)))) rfl ?_
          exact ⟨_, rfl, Kd.S_nil _ _ _ _ _, d12a⟩
        rw [if_pos h2] at h
        subst h2
        by_cases h4 : t.length = 4
        · rw [if_pos h4] at h
          have e4 : ((t.length : Int) == 4) = true := beq_iff_eq.mpr (by omega)
          have e4b : (t.length == 4) = true := beq_iff_eq.mpr (by omega)
          have e3 : ((t.length : Int) == 3) = false := beq_eq_false_iff_ne.mpr (by omega)
          have e3b : (t.length == 3) = false := beq_eq_false_iff_ne.mpr (by omega)
          clear h4 hl
          by_cases hA : (rdOf ByteArray.empty t 0).toList = [112, 97, 115, 115]
          rotate_left
          · rw [if_neg hA] at h
            have hAb : ((rdOf ByteArray.empty t 0).toList == ([112, 97, 115, 115] : List UInt8)) = false := beq_eq_false_iff_ne.mpr hA
            clear hA
            have e := Option.some.inj h
            injection e with e1 e2
            subst e1 e2
            have H := HH.out
            rw [if_neg (show ¬ ((false, l) : Bool × _).1 = true by simp)] at H
            simp only [Option.some.injEq, Prod.mk.injEq] at H
            obtain ⟨rfl, rfl, rfl⟩ := H
            clear HH
            rcases Bool.eq_false_or_eq_true ((rdOf ByteArray.empty t 0).toList == ([114, 97, 116, 101] : List UInt8)) with hS0 | hS0
            all_goals
             go_wp2_with (first | (go_at_call 34; go_loud (with_reducible refine (strings_Cut.calls x (⟨#[10]⟩ : ByteArray) line rest true _ (HV.out.below d12b) A0.out).mono ?_); rintro e w' ⟨rfl, ⟨nd, rfl⟩⟩) | (go_at_call 35; go_loud (with_reducible refine (strings_Split.calls line (⟨#[32]⟩ : ByteArray) t _ (HV.out.below d12b) A1.out).mono ?_); go_loud (rintro e w1 ⟨v, rfl, ho, hb⟩; have HI1 := Aside0.mk (((by repeat (first | exact HI.out | apply TI.drewN) : TI w w _ (.slice Al l.length cl) l)).below hb); obtain ⟨A9, c9, ev⟩ := Kd.R_slice ho; subst ev; have HRD := Aside0.mk ((Kd.R_reads' ho).2.2); clear ho hb; obtain ⟨ad0, ea0, hx0⟩ := Kd.at_string HRD.out (m2 : Int) (by omega) d12c; cases ea0; (try simp only [Int.toNat_natCast] at hx0); obtain ⟨ad1, ea1, hx1⟩ := Kd.at_string HRD.out (m1 : Int) (by omega) d12c; cases ea1; (try simp only [Int.toNat_natCast] at hx1); obtain ⟨ad2, ea2, hx2⟩ := Kd.at_string HRD.out 0 (by omega) d12c; cases ea2; (try simp only [show (0 : Int).toNat = 0 from rfl, Nat.reduceMul, Nat.reduceEqDiff, Go.Addr.add, ↓reduceIte] at hx2); (try rw [show ((0 : Int)).toNat = 0 from rfl] at hx2); obtain ⟨ad3, ea3, hx3⟩ := Kd.at_string HRD.out 1 (by omega) d12c; cases ea3; (try simp only [show (1 : Int).toNat = 1 from rfl, Nat.reduceMul, Nat.reduceEqDiff, Go.Addr.add, ↓reduceIte] at hx3); (try rw [show ((1 : Int)).toNat = 1 from rfl] at hx3); skip)) | (go_at_call 36; go_loud (first | (with_reducible refine (perigeeref2_Number.calls k1 (rdOf ByteArray.empty t (m2 : Int)) 13 _ _ _ A3.out).mono ?_) | (with_reducible refine (perigeeref2_Number.calls k1 (rdOf ByteArray.empty t (m1 : Int)) 13 _ _ _ A4.out).mono ?_)); rintro e w' ⟨rfl, ⟨nd, rfl⟩⟩))
             refine bodyPost_ret (results_list (rs := [.tmp 2, .tmp 3, .tmp 4]) rfl (by simp) (.tmp (.tmp (.tmp .nil)))) rfl ?_
             exact ⟨_, rfl, Kd.S_nil _ _ _ _ _, d12a⟩
          rw [if_pos hA] at h
          have hRate : (rdOf ByteArray.empty t 0).toList ≠ [114, 97, 116, 101] := by rw [hA]; decide
          have hAb : ((rdOf ByteArray.empty t 0).toList == ([112, 97, 115, 115] : List UInt8)) = true := beq_iff_eq.mpr hA
          clear hA
          have hRateb : ((rdOf ByteArray.empty t 0).toList == ([114, 97, 116, 101] : List UInt8)) = false := beq_eq_false_iff_ne.mpr hRate
          clear hRate
          replace h := Option.bind_eq_some_iff.mp h
          obtain ⟨ok, hw, h⟩ := h
          have A2 := Aside0.mk hw
          clear hw
          by_cases ho : ok = true
          rotate_left
          · rw [if_neg ho] at h
            obtain rfl := Bool.eq_false_iff.mpr ho
            have e := Option.some.inj h
            injection e with e1 e2
            subst e1 e2
            have H := HH.out
            rw [if_neg (show ¬ ((false, l) : Bool × _).1 = true by simp)] at H
            simp only [Option.some.injEq, Prod.mk.injEq] at H
            obtain ⟨rfl, rfl, rfl⟩ := H
            clear HH
            go_wp2_with (first | (go_at_call 34; go_loud (with_reducible refine (strings_Cut.calls x (⟨#[10]⟩ : ByteArray) line rest true _ (HV.out.below d12b) A0.out).mono ?_); rintro e w' ⟨rfl, ⟨nd, rfl⟩⟩) | (go_at_call 35; go_loud (with_reducible refine (strings_Split.calls line (⟨#[32]⟩ : ByteArray) t _ (HV.out.below d12b) A1.out).mono ?_); go_loud (rintro e w1 ⟨v, rfl, ho, hb⟩; have HI1 := Aside0.mk (((by repeat (first | exact HI.out | apply TI.drewN) : TI w w _ (.slice Al l.length cl) l)).below hb); obtain ⟨A9, c9, ev⟩ := Kd.R_slice ho; subst ev; have HRD := Aside0.mk ((Kd.R_reads' ho).2.2); clear ho hb; obtain ⟨ad0, ea0, hx0⟩ := Kd.at_string HRD.out (m2 : Int) (by omega) d12c; cases ea0; (try simp only [Int.toNat_natCast] at hx0); obtain ⟨ad1, ea1, hx1⟩ := Kd.at_string HRD.out (m1 : Int) (by omega) d12c; cases ea1; (try simp only [Int.toNat_natCast] at hx1); obtain ⟨ad2, ea2, hx2⟩ := Kd.at_string HRD.out 0 (by omega) d12c; cases ea2; (try simp only [show (0 : Int).toNat = 0 from rfl, Nat.reduceMul, Nat.reduceEqDiff, Go.Addr.add, ↓reduceIte] at hx2); (try rw [show ((0 : Int)).toNat = 0 from rfl] at hx2); obtain ⟨ad3, ea3, hx3⟩ := Kd.at_string HRD.out 1 (by omega) d12c; cases ea3; (try simp only [show (1 : Int).toNat = 1 from rfl, Nat.reduceMul, Nat.reduceEqDiff, Go.Addr.add, ↓reduceIte] at hx3); (try rw [show ((1 : Int)).toNat = 1 from rfl] at hx3); skip)) | (go_at_call 36; go_loud (first | (with_reducible refine (perigeeref2_Number.calls k1 (rdOf ByteArray.empty t (m2 : Int)) 13 _ _ _ A3.out).mono ?_) | (with_reducible refine (perigeeref2_Number.calls k1 (rdOf ByteArray.empty t (m1 : Int)) 13 _ _ _ A4.out).mono ?_)); rintro e w' ⟨rfl, ⟨nd, rfl⟩⟩) | (go_at_call 37; go_loud (with_reducible refine (perigeeref10_row.calls k1 (rdOf ByteArray.empty t 1) _ _ A2.out).mono ?_); rintro e w' ⟨rfl, ⟨nd, rfl⟩⟩))
            refine bodyPost_ret (results_list (rs := [.tmp 2, .tmp 3, .tmp 4]) rfl (by simp) (.tmp (.tmp (.tmp .nil)))) rfl ?_
            exact ⟨_, rfl, Kd.S_nil _ _ _ _ _, d12a⟩
          rw [if_pos ho] at h
          subst ho
          obtain ⟨hlt, h⟩ := guardT h
          have e := Option.some.inj h
          injection e with e1 e2
          subst e1 e2
          have H := HH.out
          rw [if_pos (show ((true, _) : Bool × List S55).1 = true from rfl)] at H
          have H' := Aside0.mk H
          clear H HH
          have HLT := Aside0.mk hlt
          clear hlt
          go_wp2_with (first | (go_at_call 34; go_loud (with_reducible refine (strings_Cut.calls x (⟨#[10]⟩ : ByteArray) line rest true _ (HV.out.below d12b) A0.out).mono ?_); rintro e w' ⟨rfl, ⟨nd, rfl⟩⟩) | (go_at_call 35; go_loud (with_reducible refine (strings_Split.calls line (⟨#[32]⟩ : ByteArray) t _ (HV.out.below d12b) A1.out).mono ?_); go_loud (rintro e w1 ⟨v, rfl, ho, hb⟩; have HI1 := Aside0.mk (((by repeat (first | exact HI.out | apply TI.drewN) : TI w w _ (.slice Al l.length cl) l)).below hb); obtain ⟨A9, c9, ev⟩ := Kd.R_slice ho; subst ev; have HRD := Aside0.mk ((Kd.R_reads' ho).2.2); clear ho hb; obtain ⟨ad0, ea0, hx0⟩ := Kd.at_string HRD.out (m2 : Int) (by omega) d12c; cases ea0; (try simp only [Int.toNat_natCast] at hx0); obtain ⟨ad1, ea1, hx1⟩ := Kd.at_string HRD.out (m1 : Int) (by omega) d12c; cases ea1; (try simp only [Int.toNat_natCast] at hx1); obtain ⟨ad2, ea2, hx2⟩ := Kd.at_string HRD.out 0 (by omega) d12c; cases ea2; (try simp only [show (0 : Int).toNat = 0 from rfl, Nat.reduceMul, Nat.reduceEqDiff, Go.Addr.add, ↓reduceIte] at hx2); (try rw [show ((0 : Int)).toNat = 0 from rfl] at hx2); obtain ⟨ad3, ea3, hx3⟩ := Kd.at_string HRD.out 1 (by omega) d12c; cases ea3; (try simp only [show (1 : Int).toNat = 1 from rfl, Nat.reduceMul, Nat.reduceEqDiff, Go.Addr.add, ↓reduceIte] at hx3); (try rw [show ((1 : Int)).toNat = 1 from rfl] at hx3); skip)) | (go_at_call 36; go_loud (first | (with_reducible refine (perigeeref2_Number.calls k1 (rdOf ByteArray.empty t (m2 : Int)) 13 _ _ _ A3.out).mono ?_) | (with_reducible refine (perigeeref2_Number.calls k1 (rdOf ByteArray.empty t (m1 : Int)) 13 _ _ _ A4.out).mono ?_)); rintro e w' ⟨rfl, ⟨nd, rfl⟩⟩) | (go_at_call 37; go_loud (with_reducible refine (perigeeref10_row.calls k1 (rdOf ByteArray.empty t 1) _ _ A2.out).mono ?_); rintro e w' ⟨rfl, ⟨nd, rfl⟩⟩) | ((with_reducible refine gate_builtin (b := .append) (xs := #[.tmp 83, .tmp 90]) rfl ?_); at_builtin; refine Kd.S_append k55 (w0 := w) w.heap.size rfl (.tmp 83) (.tmp 90) 22 55 (.agg #[.string ⟨#[]⟩, .int .i64 0, .int .i64 0, .slice none 0 0]) 56 rfl Tryd.underlying22 pass_info rfl (by decide) (by omega) (.slice Al l.length cl) l (⟨rdOf ByteArray.empty t 1, a, b, []⟩ : S55) [.string (rdOf ByteArray.empty t 1), .int .i64 a, .int .i64 b, .slice none 0 0] (fun _ => True) (fun _ => False) rfl rfl (k55_mkM _ _ _ (⟨rdOf ByteArray.empty t 1, a, b, []⟩ : S55) (Kd.R_nil _ _ _ _ _)) (fun _ h => h.elim) (fun _ _ => trivial) ?aO ?aB ?aS (by have := HLT.out; omega) ?_; (case aO => exact Kd.S_mono (by repeat (first | exact HI1.out | apply TI.drewN | apply TI.drew) : TI w w _ (.slice Al l.length cl) l).s (fun _ _ => ⟨trivial, id⟩)); (case aB => exact (by repeat (first | exact HI1.out | apply TI.drewN | apply TI.drew) : TI w w _ (.slice Al l.length cl) l).bel); (case aS => exact below_size (by repeat (first | exact HI1.out | apply TI.drewN | apply TI.drew) : TI w w _ (.slice Al l.length cl) l).bel); intro v3 W3 ho3 hb3 hg3 _; have HF := Aside0.mk (TI.mk ho3 hb3 ((by repeat (first | exact HI1.out | apply TI.drewN | apply TI.drew) : TI w w _ (.slice Al l.length cl) l).st.trans (Stays.of_grown hg3 (Kd.S_typed (by repeat (first | exact HI1.out | apply TI.drewN | apply TI.drew) : TI w w _ (.slice Al l.length cl) l).s) (by decide)))); clear ho3 hb3 hg3))
          go_roundg k1
          case measure => omega
          case rel => exact ⟨rest, _, _, rfl, (by first | rfl | (simp; done)), H', ⟨by have := HK1.out; omega⟩, ⟨by repeat (first | exact HF.out | apply TI.drewN | apply TI.drew)⟩⟩
        rw [if_neg h4] at h
        by_cases h3 : t.length = 3
        rotate_left
        · rw [if_neg h3] at h
          have e4 : ((t.length : Int) == 4) = false := beq_eq_false_iff_ne.mpr (by omega)
          have e4b : (t.length == 4) = false := beq_eq_false_iff_ne.mpr (by omega)
          have e3 : ((t.length : Int) == 3) = false := beq_eq_false_iff_ne.mpr (by omega)
          have e3b : (t.length == 3) = false := beq_eq_false_iff_ne.mpr (by omega)
          clear h4 h3 hl
          have e := Option.some.inj h
          injection e with e1 e2
          subst e1 e2
          have H := HH.out
          rw [if_neg (show ¬ ((false, l) : Bool × _).1 = true by simp)] at H
          simp only [Option.some.injEq, Prod.mk.injEq] at H
          obtain ⟨rfl, rfl, rfl⟩ := H
          clear HH
          rcases Bool.eq_false_or_eq_true ((rdOf ByteArray.empty t 0).toList == ([112, 97, 115, 115] : List UInt8)) with hS0 | hS0
          all_goals rcases Bool.eq_false_or_eq_true ((rdOf ByteArray.empty t 0).toList == ([114, 97, 116, 101] : List UInt8)) with hS1 | hS1
          all_goals
           go_wp2_with (first | (go_at_call 34; go_loud (with_reducible refine (strings_Cut.calls x (⟨#[10]⟩ : ByteArray) line rest true _ (HV.out.below d12b) A0.out).mono ?_); rintro e w' ⟨rfl, ⟨nd, rfl⟩⟩) | (go_at_call 35; go_loud (with_reducible refine (strings_Split.calls line (⟨#[32]⟩ : ByteArray) t _ (HV.out.below d12b) A1.out).mono ?_); go_loud (rintro e w1 ⟨v, rfl, ho, hb⟩; have HI1 := Aside0.mk (((by repeat (first | exact HI.out | apply TI.drewN) : TI w w _ (.slice Al l.length cl) l)).below hb); obtain ⟨A9, c9, ev⟩ := Kd.R_slice ho; subst ev; have HRD := Aside0.mk ((Kd.R_reads' ho).2.2); clear ho hb; obtain ⟨ad0, ea0, hx0⟩ := Kd.at_string HRD.out (m2 : Int) (by omega) d12c; cases ea0; (try simp only [Int.toNat_natCast] at hx0); obtain ⟨ad1, ea1, hx1⟩ := Kd.at_string HRD.out (m1 : Int) (by omega) d12c; cases ea1; (try simp only [Int.toNat_natCast] at hx1); obtain ⟨ad2, ea2, hx2⟩ := Kd.at_string HRD.out 0 (by omega) d12c; cases ea2; (try simp only [show (0 : Int).toNat = 0 from rfl, Nat.reduceMul, Nat.reduceEqDiff, Go.Addr.add, ↓reduceIte] at hx2); (try rw [show ((0 : Int)).toNat = 0 from rfl] at hx2); obtain ⟨ad3, ea3, hx3⟩ := Kd.at_string HRD.out 1 (by omega) d12c; cases ea3; (try simp only [show (1 : Int).toNat = 1 from rfl, Nat.reduceMul, Nat.reduceEqDiff, Go.Addr.add, ↓reduceIte] at hx3); (try rw [show ((1 : Int)).toNat = 1 from rfl] at hx3); skip)) | (go_at_call 36; go_loud (first | (with_reducible refine (perigeeref2_Number.calls k1 (rdOf ByteArray.empty t (m2 : Int)) 13 _ _ _ A3.out).mono ?_) | (with_reducible refine (perigeeref2_Number.calls k1 (rdOf ByteArray.empty t (m1 : Int)) 13 _ _ _ A4.out).mono ?_)); rintro e w' ⟨rfl, ⟨nd, rfl⟩⟩))
           refine bodyPost_ret (results_list (rs := [.tmp 2, .tmp 3, .tmp 4]) rfl (by simp) (.tmp (.tmp (.tmp .nil)))) rfl ?_
           exact ⟨_, rfl, Kd.S_nil _ _ _ _ _, d12a⟩
        rw [if_pos h3] at h
        have e4 : ((t.length : Int) == 4) = false := beq_eq_false_iff_ne.mpr (by omega)
        have e4b : (t.length == 4) = false := beq_eq_false_iff_ne.mpr (by omega)
        have e3 : ((t.length : Int) == 3) = true := beq_iff_eq.mpr (by omega)
        have e3b : (t.length == 3) = true := beq_iff_eq.mpr (by omega)
        clear h4 h3 hl
        by_cases hA : (rdOf ByteArray.empty t 0).toList = [114, 97, 116, 101]
        rotate_left
        · rw [if_neg hA] at h
          have hAb : ((rdOf ByteArray.empty t 0).toList == ([114, 97, 116, 101] : List UInt8)) = false := beq_eq_false_iff_ne.mpr hA
          clear hA
          have e := Option.some.inj h
          injection e with e1 e2
          subst e1 e2
          have H := HH.out
          rw [if_neg (show ¬ ((false, l) : Bool × _).1 = true by simp)] at H
          simp only [Option.some.injEq, Prod.mk.injEq] at H
          obtain ⟨rfl, rfl, rfl⟩ := H
          clear HH
          rcases Bool.eq_false_or_eq_true ((rdOf ByteArray.empty t 0).toList == ([112, 97, 115, 115] : List UInt8)) with hS0 | hS0
          all_goals
           go_wp2_with (first | (go_at_call 34; go_loud (with_reducible refine (strings_Cut.calls x (⟨#[10]⟩ : ByteArray) line rest true _ (HV.out.below d12b) A0.out).mono ?_); rintro e w' ⟨rfl, ⟨nd, rfl⟩⟩) | (go_at_call 35; go_loud (with_reducible refine (strings_Split.calls line (⟨#[32]⟩ : ByteArray) t _ (HV.out.below d12b) A1.out).mono ?_); go_loud (rintro e w1 ⟨v, rfl, ho, hb⟩; have HI1 := Aside0.mk (((by repeat (first | exact HI.out | apply TI.drewN) : TI w w _ (.slice Al l.length cl) l)).below hb); obtain ⟨A9, c9, ev⟩ := Kd.R_slice ho; subst ev; have HRD := Aside0.mk ((Kd.R_reads' ho).2.2); clear ho hb; obtain ⟨ad0, ea0, hx0⟩ := Kd.at_string HRD.out (m2 : Int) (by omega) d12c; cases ea0; (try simp only [Int.toNat_natCast] at hx0); obtain ⟨ad1, ea1, hx1⟩ := Kd.at_string HRD.out (m1 : Int) (by omega) d12c; cases ea1; (try simp only [Int.toNat_natCast] at hx1); obtain ⟨ad2, ea2, hx2⟩ := Kd.at_string HRD.out 0 (by omega) d12c; cases ea2; (try simp only [show (0 : Int).toNat = 0 from rfl, Nat.reduceMul, Nat.reduceEqDiff, Go.Addr.add, ↓reduceIte] at hx2); (try rw [show ((0 : Int)).toNat = 0 from rfl] at hx2); obtain ⟨ad3, ea3, hx3⟩ := Kd.at_string HRD.out 1 (by omega) d12c; cases ea3; (try simp only [show (1 : Int).toNat = 1 from rfl, Nat.reduceMul, Nat.reduceEqDiff, Go.Addr.add, ↓reduceIte] at hx3); (try rw [show ((1 : Int)).toNat = 1 from rfl] at hx3); skip)) | (go_at_call 36; go_loud (first | (with_reducible refine (perigeeref2_Number.calls k1 (rdOf ByteArray.empty t (m2 : Int)) 13 _ _ _ A3.out).mono ?_) | (with_reducible refine (perigeeref2_Number.calls k1 (rdOf ByteArray.empty t (m1 : Int)) 13 _ _ _ A4.out).mono ?_)); rintro e w' ⟨rfl, ⟨nd, rfl⟩⟩))
           refine bodyPost_ret (results_list (rs := [.tmp 2, .tmp 3, .tmp 4]) rfl (by simp) (.tmp (.tmp (.tmp .nil)))) rfl ?_
           exact ⟨_, rfl, Kd.S_nil _ _ _ _ _, d12a⟩
        rw [if_pos hA] at h
        have hPass : (rdOf ByteArray.empty t 0).toList ≠ [112, 97, 115, 115] := by rw [hA]; decide
        have hAb : ((rdOf ByteArray.empty t 0).toList == ([114, 97, 116, 101] : List UInt8)) = true := beq_iff_eq.mpr hA
        clear hA
        have hPassb : ((rdOf ByteArray.empty t 0).toList == ([112, 97, 115, 115] : List UInt8)) = false := beq_eq_false_iff_ne.mpr hPass
        clear hPass
        by_cases hz : l.length = 0
        · rw [if_pos hz] at h
          have z1 : decide ((0 : Int) < (l.length : Int)) = false := decide_eq_false (by omega)
          have z2 : decide (0 < l.length) = false := decide_eq_false (by omega)
          clear hz
          have e := Option.some.inj h
          injection e with e1 e2
          subst e1 e2
          have H := HH.out
          rw [if_neg (show ¬ ((false, l) : Bool × _).1 = true by simp)] at H
          simp only [Option.some.injEq, Prod.mk.injEq] at H
          obtain ⟨rfl, rfl, rfl⟩ := H
          clear HH
          go_wp2_with (first | (go_at_call 34; go_loud (with_reducible refine (strings_Cut.calls x (⟨#[10]⟩ : ByteArray) line rest true _ (HV.out.below d12b) A0.out).mono ?_); rintro e w' ⟨rfl, ⟨nd, rfl⟩⟩) | (go_at_call 35; go_loud (with_reducible refine (strings_Split.calls line (⟨#[32]⟩ : ByteArray) t _ (HV.out.below d12b) A1.out).mono ?_); go_loud (rintro e w1 ⟨v, rfl, ho, hb⟩; have HI1 := Aside0.mk (((by repeat (first | exact HI.out | apply TI.drewN) : TI w w _ (.slice Al l.length cl) l)).below hb); obtain ⟨A9, c9, ev⟩ := Kd.R_slice ho; subst ev; have HRD := Aside0.mk ((Kd.R_reads' ho).2.2); clear ho hb; obtain ⟨ad0, ea0, hx0⟩ := Kd.at_string HRD.out (m2 : Int) (by omega) d12c; cases ea0; (try simp only [Int.toNat_natCast] at hx0); obtain ⟨ad1, ea1, hx1⟩ := Kd.at_string HRD.out (m1 : Int) (by omega) d12c; cases ea1; (try simp only [Int.toNat_natCast] at hx1); obtain ⟨ad2, ea2, hx2⟩ := Kd.at_string HRD.out 0 (by omega) d12c; cases ea2; (try simp only [show (0 : Int).toNat = 0 from rfl, Nat.reduceMul, Nat.reduceEqDiff, Go.Addr.add, ↓reduceIte] at hx2); (try rw [show ((0 : Int)).toNat = 0 from rfl] at hx2); obtain ⟨ad3, ea3, hx3⟩ := Kd.at_string HRD.out 1 (by omega) d12c; cases ea3; (try simp only [show (1 : Int).toNat = 1 from rfl, Nat.reduceMul, Nat.reduceEqDiff, Go.Addr.add, ↓reduceIte] at hx3); (try rw [show ((1 : Int)).toNat = 1 from rfl] at hx3); skip)) | (go_at_call 36; go_loud (first | (with_reducible refine (perigeeref2_Number.calls k1 (rdOf ByteArray.empty t (m2 : Int)) 13 _ _ _ A3.out).mono ?_) | (with_reducible refine (perigeeref2_Number.calls k1 (rdOf ByteArray.empty t (m1 : Int)) 13 _ _ _ A4.out).mono ?_)); rintro e w' ⟨rfl, ⟨nd, rfl⟩⟩))
          refine bodyPost_ret (results_list (rs := [.tmp 2, .tmp 3, .tmp 4]) rfl (by simp) (.tmp (.tmp (.tmp .nil)))) rfl ?_
          exact ⟨_, rfl, Kd.S_nil _ _ _ _ _, d12a⟩
        rw [if_neg hz] at h
        obtain ⟨hlt, h⟩ := guardT h
        have e := Option.some.inj h
        injection e with e1 e2
        subst e1 e2
        have H := HH.out
        rw [if_pos (show ((true, _) : Bool × List S55).1 = true from rfl)] at H
        have H' := Aside0.mk H
        clear H HH
        obtain ⟨j, hj⟩ : ∃ j : Nat, j = l.length - 1 := ⟨_, rfl⟩
        have z1 : decide ((0 : Int) < (l.length : Int)) = true := decide_eq_true (by omega)
        have z2 : decide (0 < l.length) = true := decide_eq_true (by omega)
        have z3 : IntKind.i64.wrap ((l.length : Int) - 1) = (j : Int) := by rw [i64_w]; unfold wrap64; omega
        have z4 : wrap64 ((l.length : Int) - 1) = (j : Int) := by unfold wrap64; omega
        have z5 : (j < l.length) = True := eq_true (by omega)
        have z6 : ((j : Int) < (l.length : Int)) = True := eq_true (by omega)
        obtain ⟨g0, cap0, eg, _, _, _⟩ := Kd.S_form HI.out.s (by omega)
        injection eg with eg1 eg2 eg3
        subst eg1 eg3
        obtain ⟨ad, had⟩ : ∃ ad : Addr, ad = ⟨g0, 0, none⟩ := ⟨_, rfl⟩
        rw [← had] at HI ⊢
        have HAD := Aside0.mk had
        have HJ := Aside0.mk hj
        have HLT := Aside0.mk hlt
        clear hz had hj hlt eg2
        go_wp2_with (first | (go_at_call 34; go_loud (with_reducible refine (strings_Cut.calls x (⟨#[10]⟩ : ByteArray) line rest true _ (HV.out.below d12b) A0.out).mono ?_); rintro e w' ⟨rfl, ⟨nd, rfl⟩⟩) | (go_at_call 35; go_loud (with_reducible refine (strings_Split.calls line (⟨#[32]⟩ : ByteArray) t _ (HV.out.below d12b) A1.out).mono ?_); go_loud (rintro e w1 ⟨v, rfl, ho, hb⟩; have HI1 := Aside0.mk (((by repeat (first | exact HI.out | apply TI.drewN) : TI w w _ (.slice (some ad) l.length cl) l)).below hb); obtain ⟨A9, c9, ev⟩ := Kd.R_slice ho; subst ev; have HRD := Aside0.mk ((Kd.R_reads' ho).2.2); clear ho hb; obtain ⟨ad0, ea0, hx0⟩ := Kd.at_string HRD.out (m2 : Int) (by omega) d12c; cases ea0; (try simp only [Int.toNat_natCast] at hx0); obtain ⟨ad1, ea1, hx1⟩ := Kd.at_string HRD.out (m1 : Int) (by omega) d12c; cases ea1; (try simp only [Int.toNat_natCast] at hx1); obtain ⟨ad2, ea2, hx2⟩ := Kd.at_string HRD.out 0 (by omega) d12c; cases ea2; (try simp only [show (0 : Int).toNat = 0 from rfl, Nat.reduceMul, Nat.reduceEqDiff, Go.Addr.add, ↓reduceIte] at hx2); (try rw [show ((0 : Int)).toNat = 0 from rfl] at hx2); obtain ⟨ad3, ea3, hx3⟩ := Kd.at_string HRD.out 1 (by omega) d12c; cases ea3; (try simp only [show (1 : Int).toNat = 1 from rfl, Nat.reduceMul, Nat.reduceEqDiff, Go.Addr.add, ↓reduceIte] at hx3); (try rw [show ((1 : Int)).toNat = 1 from rfl] at hx3); have hS := HI1.out.s; rw [HAD.out] at hS; obtain ⟨oki, cc, hcl, hM, hcc, hfr, hoki, hH⟩ := Kd.S_elem hS z55 (j : Int) (by omega) (by have := HJ.out; have := of_decide_eq_true z2; omega); obtain ⟨v3, ecc, hR3⟩ := k55_openM hM; obtain ⟨A7, c3, ev3⟩ := Kd.R_slice hR3; subst ev3; have hlast : l.getD (j : Int).toNat z55 = lastP l := (by rw [HJ.out]; rfl); rw [hlast] at hR3 ecc; have hx9 : w1.cell? ⟨(ad.add (j * 4)).block, (ad.add (j * 4)).off + 3, none⟩ = some (.slice A7 (lastP l).f3.length c3) := (by rw [HAD.out, add_at, Nat.zero_add]; exact hcc 3 _ (by rw [ecc]; rfl)); have HE : Aside0 (TE w w w1 g0 cl l j oki cc (.slice A7 (lastP l).f3.length c3) (lastP l).f3) := ⟨⟨hH, hR3, HI1.out.bel, HI1.out.st⟩⟩; have HCC := Aside0.mk ecc; clear hS hM hcc hfr hoki hH ecc hR3 hlast hcl; skip)) | (go_at_call 36; go_loud (first | (with_reducible refine (perigeeref2_Number.calls k1 (rdOf ByteArray.empty t (m2 : Int)) 13 _ _ _ A3.out).mono ?_) | (with_reducible refine (perigeeref2_Number.calls k1 (rdOf ByteArray.empty t (m1 : Int)) 13 _ _ _ A4.out).mono ?_)); rintro e w' ⟨rfl, ⟨nd, rfl⟩⟩) | ((with_reducible refine gate_builtin (b := .append) (xs := #[.tmp 122, .tmp 126]) rfl ?_); at_builtin; go_loud (refine TE.append (w := w) (W := w) (g := g0) (cl := cl) (l := l) (j := j) (oki := oki) (c := cc) (v := .slice A7 (lastP l).f3.length c3) (xs := (lastP l).f3) (⟨a, b⟩ : S62) (.tmp 122) (.tmp 126) rfl rfl rfl rfl (by repeat (first | exact HE.out | apply TE.drewN | apply TE.drew) : TE w w _ g0 cl l j oki cc (.slice A7 (lastP l).f3.length c3) (lastP l).f3) HLT.out.2 ?_); intro oki2 v3 W3 hG; have HG := Aside0.mk hG; clear hG) | ((with_reducible refine gate_store (t := 53) (p := 129) rfl ?_); go_loud (refine Kd.H_store k55 (w0 := w) w.heap.size rfl rfl 53 (.tmp 129) (.tmp 127) rfl 55 (o' := j * 4 + 3) (j : Int) 3 l (⟨(lastP l).f0, (lastP l).f1, (lastP l).f2, (lastP l).f3 ++ [⟨a, b⟩]⟩ : S55) v3 [v3] cc (fun _ => True) oki2 oki2 ((show _ = Value.pointer (some ⟨(ad.add (j * 4)).block, (ad.add (j * 4)).off + 3, none⟩) from rfl).trans (by rw [HAD.out, add_at, Nat.zero_add])) rfl rfl (Kd.R_val HG.out.r).1 rfl (fun q hq => by rw [List.mem_singleton.1 hq]; exact (Kd.R_val HG.out.r).2) (by repeat (first | exact HG.out | apply TE.drewN | apply TE.drew) : TE w w _ g0 cl l j oki2 cc v3 ((lastP l).f3 ++ [⟨a, b⟩])).h (by omega) (by have := HJ.out; have := of_decide_eq_true z2; omega) (show 3 + 1 ≤ 4 by decide) (by rw [HCC.out]; exact k55_mkM _ _ _ (⟨(lastP l).f0, (lastP l).f1, (lastP l).f2, (lastP l).f3 ++ [⟨a, b⟩]⟩ : S55) (by repeat (first | exact HG.out | apply TE.drewN | apply TE.drew) : TE w w _ g0 cl l j oki2 cc v3 ((lastP l).f3 ++ [⟨a, b⟩])).r) (fun _ hk => hk) (by repeat (first | exact HG.out | apply TE.drewN | apply TE.drew) : TE w w _ g0 cl l j oki2 cc v3 ((lastP l).f3 ++ [⟨a, b⟩])).bel ?_); intro W4 hs4 hb4 hg4; have HF := Aside0.mk (TI.mk hs4 hb4 ((by repeat (first | exact HG.out | apply TE.drewN | apply TE.drew) : TE w w _ g0 cl l j oki2 cc v3 ((lastP l).f3 ++ [⟨a, b⟩])).st.trans (Stays.of_grown (v := .slice (some ⟨g0, 0, none⟩) l.length cl) hg4 (by repeat (first | exact HG.out | apply TE.drewN | apply TE.drew) : TE w w _ g0 cl l j oki2 cc v3 ((lastP l).f3 ++ [⟨a, b⟩])).typed (by decide)))); clear hs4 hb4 hg4))
        have HF2 : Aside0 (TI w w W4 (.slice (some ad) l.length cl) (addStep l ⟨a, b⟩)) := ⟨by rw [HAD.out]; unfold addStep; rw [← HJ.out]; have := HF.out; rwa [Int.toNat_natCast] at this⟩
        go_roundg k1
        case measure => omega
        case rel => exact ⟨rest, _, _, rfl, (by first | rfl | (simp; done)), H', ⟨by have := HK1.out; omega⟩, ⟨by repeat (first | exact HF2.out | apply TI.drewN | apply TI.drew)⟩⟩
end Go.Proofs.YtbngmblgkkdhpaaDoor.Q
