-- Made by wip/tools/claimp.py of this session's texts; Lean checks it.
import Derived.Test.YtbngmblgkkdhpaaC6Q0
import Derived.Test.YtbngmblgkkdhpaaC6G1
import Derived.Test.YtbngmblgkkdhpaaC6G2
import Derived.Test.YtbngmblgkkdhpaaC6G6
import Derived.Test.YtbngmblgkkdhpaaC6G7
namespace Go.Proofs.Ytbngmblgkkdhpaa.Q
open Go.RowKit Go.Proofs.YtbngmblgkkdhpaaW.PrintWords Go.Proofs.YtbngmblgkkdhpaaW.PrintLast Go.Proofs.YtbngmblgkkdhpaaW.PrintMore
attribute [local go_sem] max2_int min2_int max_two min_two max_three min_three max_four min_four
open Go.Proofs.Ytbngmblgkkdhpaa.Base
attribute [local go_sem high] str_leq str_gtr str_geq
set_option linter.unusedVariables false
set_option linter.unusedSimpArgs false
mutual
def contact_clash.l0 : Nat → List (S33) → Int → List Int → List Int → Int → Int → Option (Bool)
  | 0, _, _, _, _, _, _ => none
  | k + 1, x0, x1, x2, x11, x12, x13 => if x13 < x12 then (if 0 ≤ x13 then (if x13 < (x11.length : Int) then (if x13 ≤ (x2.length : Int) then (contact_clash.l1 k x0 x1 x2 (rd x11 x13) x11 x12 x13 (x2.take (x13 : Int).toNat) ((x2.take (x13 : Int).toNat).length : Int) 0) else (none)) else (none)) else (none)) else (some false)
def contact_clash.l1 : Nat → List (S33) → Int → List Int → Int → List Int → Int → Int → List Int → Int → Int → Option (Bool)
  | 0, _, _, _, _, _, _, _, _, _, _ => none
  | k + 1, x0, x1, x2, x8, x11, x12, x13, x20, x21, x22 => if x22 < x21 then (if 0 ≤ x22 then (if x22 < (x20.length : Int) then (if 0 ≤ (rd x20 x22) then (if (rd x20 x22) < (x0.length : Int) then (if 0 ≤ x8 then (if x8 < (x0.length : Int) then ((contact_exclude.f ((rd_T33 x0 (rd x20 x22)).f0) ((rd_T33 x0 (rd x20 x22)).f1) ((rd_T33 x0 (rd x20 x22)).f2) ((rd_T33 x0 (rd x20 x22)).f3) ((rd_T33 x0 x8).f0) ((rd_T33 x0 x8).f1) ((rd_T33 x0 x8).f2) ((rd_T33 x0 x8).f3) x1).bind fun t106 => (if t106 = true then (some true) else (contact_clash.l1 k x0 x1 x2 x8 x11 x12 x13 x20 x21 (wrap64 (x22 + 1))))) else (none)) else (none)) else (none)) else (none)) else (none)) else (none)) else (contact_clash.l0 k x0 x1 x2 x11 x12 (wrap64 (x13 + 1)))
end
def contact_clash.f (k : Nat) (l0 : List (S33)) (a1 : Int) (l2 : List Int) : Option (Bool) := contact_clash.l0 k l0 a1 l2 l2 (l2.length : Int) 0
def contact_clash.T7 : Bool × List (List Nat × List Nat) := (true, [([], []), ([], []), ([0, 1], [0, 1]), ([2], [2]), ([], []), ([], []), ([4, 5], [4, 5]), ([6], [6]), ([], []), ([3, 7, 8], [3, 7, 8])])
def contact_clash.B7 : List Nat := [0, 0, 3, 7, 0, 0, 48, 112, 0, 511]
theorem contact_clash.tab7 : rtab .any (opsOf Try.f53 7) = contact_clash.T7 := by kernel_rfl
theorem contact_clash.bits7 : waitsOk contact_clash.T7.2 contact_clash.B7 = true := by kernel_rfl
theorem d53a {p : Prop} (h : p := by repeat (first | (with_reducible first | exact HB.out | apply below_alloc | apply pw_below_drewN | apply below_drew1) | exact HB.out)) : p := h
theorem d53b {p : Prop} (h : p := by first | (with_reducible assumption) | assumption) : p := h
theorem d53c {p : Prop} (h : p := by first | rfl | (simp; done) | (simp [*]; done)) : p := h
set_option maxHeartbeats 8000000 in
set_option maxRecDepth 100000 in
theorem contact_clash.calls (k : Nat) (A0 : Option Addr) (c0 : Nat) (l0 : List (S33)) (a1 : Int) (A2 : Option Addr) (c2 : Nat) (l2 : List Int) (r : Bool) (w : World) (hr0 : Kd.C k33 w A0 l0.length l0) (hc0 : l0.length ≤ c0) (hr2 : Kd.C (Kd.int .i64) w A2 l2.length l2) (hc2 : l2.length ≤ c2) (h : contact_clash.f k l0 a1 l2 = some r) :
 Calls Try.prog 53 #[.slice A0 l0.length c0, .int .i64 a1, .slice A2 l2.length c2] w fun e w' => e = .returned (.bool r) ∧ Below w.heap.size w w' := by
 have hu33 := Try.underlying33
 have HR0 := Aside0.mk hr0
 have HC0 := Aside0.mk hc0
 clear hr0 hc0
 have HR2 := Aside0.mk hr2
 have HC2 := Aside0.mk hc2
 clear hr2 hc2
 have HB := Aside0.mk (Below.refl w.heap.size w)
 have H : (contact_clash.l0 k l0 a1 l2 l2 (l2.length : Int) 0) = some r := h
 clear h
 have H' := Aside0.mk H
 clear H
 go_enter Try.func53, Try.ntmps53
 go_wp2
 go_loopg [13] k (fun kq v13 w' => ∃ (x13_1 : Int), v13 = .int .i64 x13_1 ∧ Aside0 (contact_clash.l0 kq l0 a1 l2 l2 (l2.length : Int) x13_1 = some r) ∧ Aside0 (kq ≤ k) ∧ Aside0 (Below w.heap.size w w'))
 case atStart => exact ⟨(0), d53c, H', ⟨Nat.le_refl _⟩, ⟨d53a⟩⟩
 case round =>
  clear H'
  obtain ⟨x13_1, rfl, HA, HK1, HB⟩ := hrel
  cases gk with
  | zero => exact absurd HA.out (by simp [contact_clash.l0])
  | succ k1 =>
   have H := HA.out
   clear HA
   simp only [contact_clash.l0] at H
   by_cases c4 : x13_1 < (l2.length : Int)
   · rw [if_pos c4] at H
     have c4b0 : decide (x13_1 < (l2.length : Int)) = true := decide_eq_true c4
     clear c4
     replace H := guardT H; obtain ⟨c5, H⟩ := H
     have c5b0 : decide (0 ≤ x13_1) = true := decide_eq_true c5
     clear c5
     replace H := guardT H; obtain ⟨c6, H⟩ := H
     have c6b0 : decide (x13_1 < (l2.length : Int)) = true := decide_eq_true c6
     clear c6
     have c7b0 := eq_true (of_decide_eq_true d53b : 0 ≤ x13_1)
     replace H := guardT H; obtain ⟨c8, H⟩ := H
     have c8b0 := eq_true c8
     have c8b1 : decide (x13_1 ≤ (l2.length : Int)) = true := decide_eq_true c8
     clear c8
     have H' := Aside0.mk H
     clear H
     have p101 : 0 ≤ (x13_1 : Int) := of_decide_eq_true d53b
     have q101 : x13_1 < (l2.length : Int) := of_decide_eq_true d53b
     obtain ⟨ad101, e101, hx101_0⟩ := Kd.at_int HR2.out x13_1 p101 q101
     cases e101
     replace hx101_0 := cellB HB.out hx101_0
     replace p101 := eq_true p101
     replace q101 := eq_true q101
     obtain ⟨i09, hi09, _, hsz9, _⟩ := info_parts info3
     obtain ⟨hcut9, hA9, hC9⟩ := print_take_of (P := Try.prog) (Value.int .i64) 0 35 3 .i64 Try.underlying35 hi09 hsz9 (some ad101) c2 l2 x13_1 (of_decide_eq_true d53b) (of_decide_eq_true d53b) HC2.out
     obtain ⟨tk9, htk9⟩ : ∃ tk_ : List _, (l2.take (x13_1 : Int).toNat) = tk_ := ⟨_, rfl⟩
     rw [htk9] at hcut9 hA9 hC9
     (try rw [htk9] at H)
     (try rw [htk9] at H')
     have Htk9 := Aside0.mk htk9
     clear htk9
     have HR102 := Aside0.mk (Kd.C_of_reads (h1 := fun _ => rfl) (hA9 _ (Kd.reads_of_C HR2.out)))
     have HC102 := Aside0.mk hC9
     clear hA9 hC9 hi09 hsz9
     go_wp2
     go_loopg [22] k1 (fun kq v22 w' => ∃ (x22_2 : Int), v22 = .int .i64 x22_2 ∧ Aside0 (contact_clash.l1 kq l0 a1 l2 (rd l2 x13_1) l2 (l2.length : Int) x13_1 tk9 (tk9.length : Int) x22_2 = some r) ∧ Aside0 (kq ≤ k1) ∧ Aside0 (Below w.heap.size w w'))
     case atStart => exact ⟨(0), d53c, H', ⟨Nat.le_refl _⟩, ⟨d53a⟩⟩
     case round =>
      clear H'
      try clear c4b0
      try clear c5b0
      try clear c6b0
      try clear c7b0
      try clear c8b0
      try clear c8b1
      try clear hx101_0
      try clear p101
      try clear q101
      obtain ⟨x22_2, rfl, HA, HK2, HB⟩ := hrel
      cases gk with
      | zero => exact absurd HA.out (by simp [contact_clash.l1])
      | succ k2 =>
       have H := HA.out
       clear HA
       simp only [contact_clash.l1] at H
       by_cases c10 : x22_2 < (tk9.length : Int)
       · rw [if_pos c10] at H
         have c10b0 : decide (x22_2 < (tk9.length : Int)) = true := decide_eq_true c10
         clear c10
         replace H := guardT H; obtain ⟨c11, H⟩ := H
         have c11b0 : decide (0 ≤ x22_2) = true := decide_eq_true c11
         clear c11
         replace H := guardT H; obtain ⟨c12, H⟩ := H
         have c12b0 : decide (x22_2 < (tk9.length : Int)) = true := decide_eq_true c12
         clear c12
         replace H := guardT H; obtain ⟨c13, H⟩ := H
         have c13b0 : decide (0 ≤ (rd tk9 x22_2)) = true := decide_eq_true c13
         clear c13
         replace H := guardT H; obtain ⟨c14, H⟩ := H
         have c14b0 : decide ((rd tk9 x22_2) < (l0.length : Int)) = true := decide_eq_true c14
         clear c14
         replace H := guardT H; obtain ⟨c15, H⟩ := H
         have c15b0 : decide (0 ≤ (rd l2 x13_1)) = true := decide_eq_true c15
         clear c15
         replace H := guardT H; obtain ⟨c16, H⟩ := H
         have c16b0 : decide ((rd l2 x13_1) < (l0.length : Int)) = true := decide_eq_true c16
         clear c16
         replace H := bindS H; obtain ⟨t106, A17, H⟩ := H
         by_cases c18 : t106 = true
         · subst c18
           replace H := iteT H
           obtain rfl := Option.some.inj H
           have p103 : 0 ≤ (x22_2 : Int) := of_decide_eq_true d53b
           have q103 : x22_2 < (tk9.length : Int) := of_decide_eq_true d53b
           obtain ⟨ad103, e103, hx103_0⟩ := Kd.at_int HR102.out x22_2 p103 q103
           obtain rfl : ad101 = ad103 := (by injection e103)
           replace hx103_0 := cellB HB.out hx103_0
           replace p103 := eq_true p103
           replace q103 := eq_true q103
           try go_wp2
           have n0_ := Aside0.mk (below_drew1 HB.out)
           clear HB
           have HB := n0_
           clear n0_
           have p104 : 0 ≤ ((rd tk9 x22_2) : Int) := of_decide_eq_true d53b
           have q104 : (rd tk9 x22_2) < (l0.length : Int) := of_decide_eq_true d53b
           obtain ⟨ad104, A104_3, c104_3, e104, hx104_0, hx104_1, hx104_2, hx104_3, hl104_3, hi104_3⟩ := at_T33 HR0.out (rd tk9 x22_2) p104 q104
           have hw104_3 := hx104_3
           have hw104_2 := hx104_2
           have hw104_1 := hx104_1
           have hw104_0 := hx104_0
           cases e104
           replace hx104_0 := cellB HB.out hx104_0
           replace hx104_1 := cellB HB.out hx104_1
           replace hx104_2 := cellB HB.out hx104_2
           replace hx104_3 := cellB HB.out hx104_3
           have HR104_3 := Aside0.mk hi104_3
           have HC104_3 := Aside0.mk hl104_3
           clear hi104_3 hl104_3
           replace p104 := eq_true p104
           replace q104 := eq_true q104
           have p105 : 0 ≤ ((rd l2 x13_1) : Int) := of_decide_eq_true d53b
           have q105 : (rd l2 x13_1) < (l0.length : Int) := of_decide_eq_true d53b
           obtain ⟨ad105, A105_3, c105_3, e105, hx105_0, hx105_1, hx105_2, hx105_3, hl105_3, hi105_3⟩ := at_T33 HR0.out (rd l2 x13_1) p105 q105
           have hw105_3 := hx105_3
           have hw105_2 := hx105_2
           have hw105_1 := hx105_1
           have hw105_0 := hx105_0
           obtain rfl : ad104 = ad105 := (by injection e105)
           replace hx105_0 := cellB HB.out hx105_0
           replace hx105_1 := cellB HB.out hx105_1
           replace hx105_2 := cellB HB.out hx105_2
           replace hx105_3 := cellB HB.out hx105_3
           have HR105_3 := Aside0.mk hi105_3
           have HC105_3 := Aside0.mk hl105_3
           clear hi105_3 hl105_3
           replace p105 := eq_true p105
           replace q105 := eq_true q105
           refine start_ (n := 10) (S := fun w' => w'.cell? (ad104.add (((rd tk9 x22_2)).toNat * 4)) = some (.string ((rd_T33 l0 (rd tk9 x22_2)).f0)) ∧ w'.cell? ⟨(ad104.add (((rd tk9 x22_2)).toNat * 4)).block, (ad104.add (((rd tk9 x22_2)).toNat * 4)).off + 1, none⟩ = some (.int .i64 ((rd_T33 l0 (rd tk9 x22_2)).f1)) ∧ w'.cell? ⟨(ad104.add (((rd tk9 x22_2)).toNat * 4)).block, (ad104.add (((rd tk9 x22_2)).toNat * 4)).off + 2, none⟩ = some (.int .i64 ((rd_T33 l0 (rd tk9 x22_2)).f2)) ∧ w'.cell? ⟨(ad104.add (((rd tk9 x22_2)).toNat * 4)).block, (ad104.add (((rd tk9 x22_2)).toNat * 4)).off + 3, none⟩ = some (.slice A104_3 ((rd_T33 l0 (rd tk9 x22_2)).f3).length c104_3) ∧ w'.cell? (ad104.add (((rd l2 x13_1)).toNat * 4)) = some (.string ((rd_T33 l0 (rd l2 x13_1)).f0)) ∧ w'.cell? ⟨(ad104.add (((rd l2 x13_1)).toNat * 4)).block, (ad104.add (((rd l2 x13_1)).toNat * 4)).off + 1, none⟩ = some (.int .i64 ((rd_T33 l0 (rd l2 x13_1)).f1)) ∧ w'.cell? ⟨(ad104.add (((rd l2 x13_1)).toNat * 4)).block, (ad104.add (((rd l2 x13_1)).toNat * 4)).off + 2, none⟩ = some (.int .i64 ((rd_T33 l0 (rd l2 x13_1)).f2)) ∧ w'.cell? ⟨(ad104.add (((rd l2 x13_1)).toNat * 4)).block, (ad104.add (((rd l2 x13_1)).toNat * 4)).off + 3, none⟩ = some (.slice A105_3 ((rd_T33 l0 (rd l2 x13_1)).f3).length c105_3)) (ds := []) #[false, false, false, false, false, false, false, false, false, false] (by kernel_rfl) rfl rfl ⟨((HB.out.cell (World.block_lt_of_cell? w _ hw104_0)).trans hw104_0), ((HB.out.cell (World.block_lt_of_cell? w _ hw104_1)).trans hw104_1), ((HB.out.cell (World.block_lt_of_cell? w _ hw104_2)).trans hw104_2), ((HB.out.cell (World.block_lt_of_cell? w _ hw104_3)).trans hw104_3), ((HB.out.cell (World.block_lt_of_cell? w _ hw105_0)).trans hw105_0), ((HB.out.cell (World.block_lt_of_cell? w _ hw105_1)).trans hw105_1), ((HB.out.cell (World.block_lt_of_cell? w _ hw105_2)).trans hw105_2), ((HB.out.cell (World.block_lt_of_cell? w _ hw105_3)).trans hw105_3)⟩ (fun hHeld => ?_); refine with_tabW contact_clash.tab7 contact_clash.bits7 (fun HT_ HW_ => ?_)
           generalize wr.drew = w19 at HB HR104_3 HR105_3 hx104_0 hx104_1 hx104_2 hx104_3 hx105_0 hx105_1 hx105_2 hx105_3 hHeld ⊢
           refine pure_ (i := 0) (N := some 26) (v := ?_) (a' := ?_) #[true, false, false, false, false, false, false, false, false, false] rfl rfl (any_of HT_.out (by kernel_rfl)) (fun _ _ _ h => h) (Or.inl ⟨by rfl, ?_⟩) ?_ ?_
           rotate_left
           · intro w'
             go_simp
             with_reducible rfl
           rotate_left
           · simp only [Act.put, List.setIfInBounds_toArray, List.set_cons_zero, List.set_cons_succ, i64_w, i32_w]
             rfl
           refine pure_ (i := 1) (N := some 27) (v := ?_) (a' := ?_) #[true, true, false, false, false, false, false, false, false, false] rfl rfl (any_of HT_.out (by kernel_rfl)) (fun _ _ _ h => h) (Or.inl ⟨by rfl, ?_⟩) ?_ ?_
           rotate_left
           · intro w'
             go_simp
             with_reducible rfl
           rotate_left
           · simp only [Act.put, List.setIfInBounds_toArray, List.set_cons_zero, List.set_cons_succ, i64_w, i32_w]
             rfl
           refine pure_ (i := 2) (N := some 28) (v := ?_) (a' := ?_) #[true, true, true, false, false, false, false, false, false, false] rfl rfl (any_of HT_.out (by kernel_rfl)) (fun _ _ _ h => h) (Or.inl ⟨by rfl, ?_⟩) ?_ ?_
           rotate_left
           · intro w'
             go_simp
             with_reducible rfl
           rotate_left
           · simp only [Act.put, List.setIfInBounds_toArray, List.set_cons_zero, List.set_cons_succ, i64_w, i32_w]
             rfl
           refine pure_ (i := 4) (N := some 30) (v := ?_) (a' := ?_) #[true, true, true, false, true, false, false, false, false, false] rfl rfl (any_of HT_.out (by kernel_rfl)) (fun _ _ _ h => h) (Or.inl ⟨by rfl, ?_⟩) ?_ ?_
           rotate_left
           · intro w'
             go_simp
             with_reducible rfl
           rotate_left
           · simp only [Act.put, List.setIfInBounds_toArray, List.set_cons_zero, List.set_cons_succ, i64_w, i32_w]
             rfl
           refine pure_ (i := 5) (N := some 31) (v := ?_) (a' := ?_) #[true, true, true, false, true, true, false, false, false, false] rfl rfl (any_of HT_.out (by kernel_rfl)) (fun _ _ _ h => h) (Or.inl ⟨by rfl, ?_⟩) ?_ ?_
           rotate_left
           · intro w'
             go_simp
             with_reducible rfl
           rotate_left
           · simp only [Act.put, List.setIfInBounds_toArray, List.set_cons_zero, List.set_cons_succ, i64_w, i32_w]
             rfl
           refine pure_ (i := 6) (N := some 32) (v := ?_) (a' := ?_) #[true, true, true, false, true, true, true, false, false, false] rfl rfl (any_of HT_.out (by kernel_rfl)) (fun _ _ _ h => h) (Or.inl ⟨by rfl, ?_⟩) ?_ ?_
           rotate_left
           · intro w'
             go_simp
             with_reducible rfl
           rotate_left
           · simp only [Act.put, List.setIfInBounds_toArray, List.set_cons_zero, List.set_cons_succ, i64_w, i32_w]
             rfl
           refine pure_ (i := 8) (N := some 34) (v := ?_) (a' := ?_) #[true, true, true, false, true, true, true, false, true, false] rfl rfl (any_of HT_.out (by kernel_rfl)) (fun _ _ _ h => h) (Or.inl ⟨by rfl, ?_⟩) ?_ ?_
           rotate_left
           · intro w'
             go_simp
             with_reducible rfl
           rotate_left
           · simp only [Act.put, List.setIfInBounds_toArray, List.set_cons_zero, List.set_cons_succ, i64_w, i32_w]
             rfl
           refine take_ (i := 3) (N := some 29) (v := ?_) (a' := ?_) #[true, true, true, true, true, true, true, false, true, false] rfl rfl (take_ofW HT_.out HW_.out (by kernel_rfl)) (fun _ _ _ h => h) (Or.inl ⟨by rfl, ?_⟩) hHeld ?_ ?_
           rotate_left
           · rintro w' ⟨s0, s1, s2, s3, s4, s5, s6, s7⟩
             go_simp
             with_reducible rfl
           rotate_left
           · simp only [Act.put, List.setIfInBounds_toArray, List.set_cons_zero, List.set_cons_succ, i64_w, i32_w]
             rfl
           refine take_ (i := 7) (N := some 33) (v := ?_) (a' := ?_) #[true, true, true, true, true, true, true, true, true, false] rfl rfl (take_ofW HT_.out HW_.out (by kernel_rfl)) (fun _ _ _ h => h) (Or.inl ⟨by rfl, ?_⟩) hHeld ?_ ?_
           rotate_left
           · rintro w' ⟨s0, s1, s2, s3, s4, s5, s6, s7⟩
             go_simp
             with_reducible rfl
           rotate_left
           · simp only [Act.put, List.setIfInBounds_toArray, List.set_cons_zero, List.set_cons_succ, i64_w, i32_w]
             rfl
           refine one_ (i := 9) (N := some 35) #[true, true, true, true, true, true, true, true, true, true] rfl rfl (one_of HT_.out (by kernel_rfl)) (by decide) (fun K hK => ?_)
           refine goes_ Try.func50 (by kernel_rfl) rfl #[.agg #[.string ((rd_T33 l0 (rd tk9 x22_2)).f0), .int .i64 ((rd_T33 l0 (rd tk9 x22_2)).f1), .int .i64 ((rd_T33 l0 (rd tk9 x22_2)).f2), .slice A104_3 ((rd_T33 l0 (rd tk9 x22_2)).f3).length c104_3], .agg #[.string ((rd_T33 l0 (rd l2 x13_1)).f0), .int .i64 ((rd_T33 l0 (rd l2 x13_1)).f1), .int .i64 ((rd_T33 l0 (rd l2 x13_1)).f2), .slice A105_3 ((rd_T33 l0 (rd l2 x13_1)).f3).length c105_3], .int .i64 a1] (by rfl) rfl rfl (by (try simp only [List.map_toArray, List.map_cons, List.map_nil]); first | done | rfl | (simp only [List.length_drop, List.length_take]; rfl)) ?_
           with_reducible refine (contact_exclude.calls ((rd_T33 l0 (rd tk9 x22_2)).f0) ((rd_T33 l0 (rd tk9 x22_2)).f1) ((rd_T33 l0 (rd tk9 x22_2)).f2) _ _ ((rd_T33 l0 (rd tk9 x22_2)).f3) ((rd_T33 l0 (rd l2 x13_1)).f0) ((rd_T33 l0 (rd l2 x13_1)).f1) ((rd_T33 l0 (rd l2 x13_1)).f2) _ _ ((rd_T33 l0 (rd l2 x13_1)).f3) a1 true _ ?side1 ?side2 ?side3 ?side4 A17.out).mono ?_
           (case side1 => exact C_go (Kd.C_below HR104_3.out HB.out))
           (case side2 => exact HC104_3.out)
           (case side3 => exact C_go (Kd.C_below HR105_3.out HB.out))
           (case side4 => exact HC105_3.out)
           rintro e w20 ⟨rfl, hb⟩
           refine ⟨_, rfl, ?_⟩
           have n0_ := Aside0.mk (below_step d53a hb)
           clear HB
           have HB := n0_
           clear n0_
           (try clear hb)
           skip
           skip
           skip
           refine hK.out _ _ ⟨((HB.out.cell (World.block_lt_of_cell? w _ hw104_0)).trans hw104_0), ((HB.out.cell (World.block_lt_of_cell? w _ hw104_1)).trans hw104_1), ((HB.out.cell (World.block_lt_of_cell? w _ hw104_2)).trans hw104_2), ((HB.out.cell (World.block_lt_of_cell? w _ hw104_3)).trans hw104_3), ((HB.out.cell (World.block_lt_of_cell? w _ hw105_0)).trans hw105_0), ((HB.out.cell (World.block_lt_of_cell? w _ hw105_1)).trans hw105_1), ((HB.out.cell (World.block_lt_of_cell? w _ hw105_2)).trans hw105_2), ((HB.out.cell (World.block_lt_of_cell? w _ hw105_3)).trans hw105_3)⟩ (fun hHeld => ?_)
           clear hK K
           refine norm_ (a' := ?_) ?_ ?_
           rotate_left
           · show Act.put _ (some 35) _ = _
             simp only [Act.put, List.setIfInBounds_toArray, List.set_cons_zero, List.set_cons_succ, i64_w, i32_w]
             rfl
           refine done_ (done_of HT_.out (by kernel_rfl)) ?_
           try go_wp2
           go_ret
           exact ⟨by first | rfl | (simp [errW_none, errW_some] <;> rfl) | (simp [*, errW_none, errW_some] <;> rfl), d53a⟩
         · replace c18 := Bool.eq_false_iff.mpr c18
           subst c18
           replace H := iteF H
           have H' := Aside0.mk H
           clear H
           have p103 : 0 ≤ (x22_2 : Int) := of_decide_eq_true d53b
           have q103 : x22_2 < (tk9.length : Int) := of_decide_eq_true d53b
           obtain ⟨ad103, e103, hx103_0⟩ := Kd.at_int HR102.out x22_2 p103 q103
           obtain rfl : ad101 = ad103 := (by injection e103)
           replace hx103_0 := cellB HB.out hx103_0
           replace p103 := eq_true p103
           replace q103 := eq_true q103
           try go_wp2
           have n0_ := Aside0.mk (below_drew1 HB.out)
           clear HB
           have HB := n0_
           clear n0_
           have p104 : 0 ≤ ((rd tk9 x22_2) : Int) := of_decide_eq_true d53b
           have q104 : (rd tk9 x22_2) < (l0.length : Int) := of_decide_eq_true d53b
           obtain ⟨ad104, A104_3, c104_3, e104, hx104_0, hx104_1, hx104_2, hx104_3, hl104_3, hi104_3⟩ := at_T33 HR0.out (rd tk9 x22_2) p104 q104
           have hw104_3 := hx104_3
           have hw104_2 := hx104_2
           have hw104_1 := hx104_1
           have hw104_0 := hx104_0
           cases e104
           replace hx104_0 := cellB HB.out hx104_0
           replace hx104_1 := cellB HB.out hx104_1
           replace hx104_2 := cellB HB.out hx104_2
           replace hx104_3 := cellB HB.out hx104_3
           have HR104_3 := Aside0.mk hi104_3
           have HC104_3 := Aside0.mk hl104_3
           clear hi104_3 hl104_3
           replace p104 := eq_true p104
           replace q104 := eq_true q104
           have p105 : 0 ≤ ((rd l2 x13_1) : Int) := of_decide_eq_true d53b
           have q105 : (rd l2 x13_1) < (l0.length : Int) := of_decide_eq_true d53b
           obtain ⟨ad105, A105_3, c105_3, e105, hx105_0, hx105_1, hx105_2, hx105_3, hl105_3, hi105_3⟩ := at_T33 HR0.out (rd l2 x13_1) p105 q105
           have hw105_3 := hx105_3
           have hw105_2 := hx105_2
           have hw105_1 := hx105_1
           have hw105_0 := hx105_0
           obtain rfl : ad104 = ad105 := (by injection e105)
           replace hx105_0 := cellB HB.out hx105_0
           replace hx105_1 := cellB HB.out hx105_1
           replace hx105_2 := cellB HB.out hx105_2
           replace hx105_3 := cellB HB.out hx105_3
           have HR105_3 := Aside0.mk hi105_3
           have HC105_3 := Aside0.mk hl105_3
           clear hi105_3 hl105_3
           replace p105 := eq_true p105
           replace q105 := eq_true q105
           refine start_ (n := 10) (S := fun w' => w'.cell? (ad104.add (((rd tk9 x22_2)).toNat * 4)) = some (.string ((rd_T33 l0 (rd tk9 x22_2)).f0)) ∧ w'.cell? ⟨(ad104.add (((rd tk9 x22_2)).toNat * 4)).block, (ad104.add (((rd tk9 x22_2)).toNat * 4)).off + 1, none⟩ = some (.int .i64 ((rd_T33 l0 (rd tk9 x22_2)).f1)) ∧ w'.cell? ⟨(ad104.add (((rd tk9 x22_2)).toNat * 4)).block, (ad104.add (((rd tk9 x22_2)).toNat * 4)).off + 2, none⟩ = some (.int .i64 ((rd_T33 l0 (rd tk9 x22_2)).f2)) ∧ w'.cell? ⟨(ad104.add (((rd tk9 x22_2)).toNat * 4)).block, (ad104.add (((rd tk9 x22_2)).toNat * 4)).off + 3, none⟩ = some (.slice A104_3 ((rd_T33 l0 (rd tk9 x22_2)).f3).length c104_3) ∧ w'.cell? (ad104.add (((rd l2 x13_1)).toNat * 4)) = some (.string ((rd_T33 l0 (rd l2 x13_1)).f0)) ∧ w'.cell? ⟨(ad104.add (((rd l2 x13_1)).toNat * 4)).block, (ad104.add (((rd l2 x13_1)).toNat * 4)).off + 1, none⟩ = some (.int .i64 ((rd_T33 l0 (rd l2 x13_1)).f1)) ∧ w'.cell? ⟨(ad104.add (((rd l2 x13_1)).toNat * 4)).block, (ad104.add (((rd l2 x13_1)).toNat * 4)).off + 2, none⟩ = some (.int .i64 ((rd_T33 l0 (rd l2 x13_1)).f2)) ∧ w'.cell? ⟨(ad104.add (((rd l2 x13_1)).toNat * 4)).block, (ad104.add (((rd l2 x13_1)).toNat * 4)).off + 3, none⟩ = some (.slice A105_3 ((rd_T33 l0 (rd l2 x13_1)).f3).length c105_3)) (ds := []) #[false, false, false, false, false, false, false, false, false, false] (by kernel_rfl) rfl rfl ⟨((HB.out.cell (World.block_lt_of_cell? w _ hw104_0)).trans hw104_0), ((HB.out.cell (World.block_lt_of_cell? w _ hw104_1)).trans hw104_1), ((HB.out.cell (World.block_lt_of_cell? w _ hw104_2)).trans hw104_2), ((HB.out.cell (World.block_lt_of_cell? w _ hw104_3)).trans hw104_3), ((HB.out.cell (World.block_lt_of_cell? w _ hw105_0)).trans hw105_0), ((HB.out.cell (World.block_lt_of_cell? w _ hw105_1)).trans hw105_1), ((HB.out.cell (World.block_lt_of_cell? w _ hw105_2)).trans hw105_2), ((HB.out.cell (World.block_lt_of_cell? w _ hw105_3)).trans hw105_3)⟩ (fun hHeld => ?_); refine with_tabW contact_clash.tab7 contact_clash.bits7 (fun HT_ HW_ => ?_)
           generalize wr.drew = w21 at HB HR104_3 HR105_3 hx104_0 hx104_1 hx104_2 hx104_3 hx105_0 hx105_1 hx105_2 hx105_3 hHeld ⊢
           refine pure_ (i := 0) (N := some 26) (v := ?_) (a' := ?_) #[true, false, false, false, false, false, false, false, false, false] rfl rfl (any_of HT_.out (by kernel_rfl)) (fun _ _ _ h => h) (Or.inl ⟨by rfl, ?_⟩) ?_ ?_
           rotate_left
           · intro w'
             go_simp
             with_reducible rfl
           rotate_left
           · simp only [Act.put, List.setIfInBounds_toArray, List.set_cons_zero, List.set_cons_succ, i64_w, i32_w]
             rfl
           refine pure_ (i := 1) (N := some 27) (v := ?_) (a' := ?_) #[true, true, false, false, false, false, false, false, false, false] rfl rfl (any_of HT_.out (by kernel_rfl)) (fun _ _ _ h => h) (Or.inl ⟨by rfl, ?_⟩) ?_ ?_
           rotate_left
           · intro w'
             go_simp
             with_reducible rfl
           rotate_left
           · simp only [Act.put, List.setIfInBounds_toArray, List.set_cons_zero, List.set_cons_succ, i64_w, i32_w]
             rfl
           refine pure_ (i := 2) (N := some 28) (v := ?_) (a' := ?_) #[true, true, true, false, false, false, false, false, false, false] rfl rfl (any_of HT_.out (by kernel_rfl)) (fun _ _ _ h => h) (Or.inl ⟨by rfl, ?_⟩) ?_ ?_
           rotate_left
           · intro w'
             go_simp
             with_reducible rfl
           rotate_left
           · simp only [Act.put, List.setIfInBounds_toArray, List.set_cons_zero, List.set_cons_succ, i64_w, i32_w]
             rfl
           refine pure_ (i := 4) (N := some 30) (v := ?_) (a' := ?_) #[true, true, true, false, true, false, false, false, false, false] rfl rfl (any_of HT_.out (by kernel_rfl)) (fun _ _ _ h => h) (Or.inl ⟨by rfl, ?_⟩) ?_ ?_
           rotate_left
           · intro w'
             go_simp
             with_reducible rfl
           rotate_left
           · simp only [Act.put, List.setIfInBounds_toArray, List.set_cons_zero, List.set_cons_succ, i64_w, i32_w]
             rfl
           refine pure_ (i := 5) (N := some 31) (v := ?_) (a' := ?_) #[true, true, true, false, true, true, false, false, false, false] rfl rfl (any_of HT_.out (by kernel_rfl)) (fun _ _ _ h => h) (Or.inl ⟨by rfl, ?_⟩) ?_ ?_
           rotate_left
           · intro w'
             go_simp
             with_reducible rfl
           rotate_left
           · simp only [Act.put, List.setIfInBounds_toArray, List.set_cons_zero, List.set_cons_succ, i64_w, i32_w]
             rfl
           refine pure_ (i := 6) (N := some 32) (v := ?_) (a' := ?_) #[true, true, true, false, true, true, true, false, false, false] rfl rfl (any_of HT_.out (by kernel_rfl)) (fun _ _ _ h => h) (Or.inl ⟨by rfl, ?_⟩) ?_ ?_
           rotate_left
           · intro w'
             go_simp
             with_reducible rfl
           rotate_left
           · simp only [Act.put, List.setIfInBounds_toArray, List.set_cons_zero, List.set_cons_succ, i64_w, i32_w]
             rfl
           refine pure_ (i := 8) (N := some 34) (v := ?_) (a' := ?_) #[true, true, true, false, true, true, true, false, true, false] rfl rfl (any_of HT_.out (by kernel_rfl)) (fun _ _ _ h => h) (Or.inl ⟨by rfl, ?_⟩) ?_ ?_
           rotate_left
           · intro w'
             go_simp
             with_reducible rfl
           rotate_left
           · simp only [Act.put, List.setIfInBounds_toArray, List.set_cons_zero, List.set_cons_succ, i64_w, i32_w]
             rfl
           refine take_ (i := 3) (N := some 29) (v := ?_) (a' := ?_) #[true, true, true, true, true, true, true, false, true, false] rfl rfl (take_ofW HT_.out HW_.out (by kernel_rfl)) (fun _ _ _ h => h) (Or.inl ⟨by rfl, ?_⟩) hHeld ?_ ?_
           rotate_left
           · rintro w' ⟨s0, s1, s2, s3, s4, s5, s6, s7⟩
             go_simp
             with_reducible rfl
           rotate_left
           · simp only [Act.put, List.setIfInBounds_toArray, List.set_cons_zero, List.set_cons_succ, i64_w, i32_w]
             rfl
           refine take_ (i := 7) (N := some 33) (v := ?_) (a' := ?_) #[true, true, true, true, true, true, true, true, true, false] rfl rfl (take_ofW HT_.out HW_.out (by kernel_rfl)) (fun _ _ _ h => h) (Or.inl ⟨by rfl, ?_⟩) hHeld ?_ ?_
           rotate_left
           · rintro w' ⟨s0, s1, s2, s3, s4, s5, s6, s7⟩
             go_simp
             with_reducible rfl
           rotate_left
           · simp only [Act.put, List.setIfInBounds_toArray, List.set_cons_zero, List.set_cons_succ, i64_w, i32_w]
             rfl
           refine one_ (i := 9) (N := some 35) #[true, true, true, true, true, true, true, true, true, true] rfl rfl (one_of HT_.out (by kernel_rfl)) (by decide) (fun K hK => ?_)
           refine goes_ Try.func50 (by kernel_rfl) rfl #[.agg #[.string ((rd_T33 l0 (rd tk9 x22_2)).f0), .int .i64 ((rd_T33 l0 (rd tk9 x22_2)).f1), .int .i64 ((rd_T33 l0 (rd tk9 x22_2)).f2), .slice A104_3 ((rd_T33 l0 (rd tk9 x22_2)).f3).length c104_3], .agg #[.string ((rd_T33 l0 (rd l2 x13_1)).f0), .int .i64 ((rd_T33 l0 (rd l2 x13_1)).f1), .int .i64 ((rd_T33 l0 (rd l2 x13_1)).f2), .slice A105_3 ((rd_T33 l0 (rd l2 x13_1)).f3).length c105_3], .int .i64 a1] (by rfl) rfl rfl (by (try simp only [List.map_toArray, List.map_cons, List.map_nil]); first | done | rfl | (simp only [List.length_drop, List.length_take]; rfl)) ?_
           with_reducible refine (contact_exclude.calls ((rd_T33 l0 (rd tk9 x22_2)).f0) ((rd_T33 l0 (rd tk9 x22_2)).f1) ((rd_T33 l0 (rd tk9 x22_2)).f2) _ _ ((rd_T33 l0 (rd tk9 x22_2)).f3) ((rd_T33 l0 (rd l2 x13_1)).f0) ((rd_T33 l0 (rd l2 x13_1)).f1) ((rd_T33 l0 (rd l2 x13_1)).f2) _ _ ((rd_T33 l0 (rd l2 x13_1)).f3) a1 false _ ?side1 ?side2 ?side3 ?side4 A17.out).mono ?_
           (case side1 => exact C_go (Kd.C_below HR104_3.out HB.out))
           (case side2 => exact HC104_3.out)
           (case side3 => exact C_go (Kd.C_below HR105_3.out HB.out))
           (case side4 => exact HC105_3.out)
           rintro e w22 ⟨rfl, hb⟩
           refine ⟨_, rfl, ?_⟩
           have n0_ := Aside0.mk (below_step d53a hb)
           clear HB
           have HB := n0_
           clear n0_
           (try clear hb)
           skip
           skip
           skip
           refine hK.out _ _ ⟨((HB.out.cell (World.block_lt_of_cell? w _ hw104_0)).trans hw104_0), ((HB.out.cell (World.block_lt_of_cell? w _ hw104_1)).trans hw104_1), ((HB.out.cell (World.block_lt_of_cell? w _ hw104_2)).trans hw104_2), ((HB.out.cell (World.block_lt_of_cell? w _ hw104_3)).trans hw104_3), ((HB.out.cell (World.block_lt_of_cell? w _ hw105_0)).trans hw105_0), ((HB.out.cell (World.block_lt_of_cell? w _ hw105_1)).trans hw105_1), ((HB.out.cell (World.block_lt_of_cell? w _ hw105_2)).trans hw105_2), ((HB.out.cell (World.block_lt_of_cell? w _ hw105_3)).trans hw105_3)⟩ (fun hHeld => ?_)
           clear hK K
           refine norm_ (a' := ?_) ?_ ?_
           rotate_left
           · show Act.put _ (some 35) _ = _
             simp only [Act.put, List.setIfInBounds_toArray, List.set_cons_zero, List.set_cons_succ, i64_w, i32_w]
             rfl
           refine done_ (done_of HT_.out (by kernel_rfl)) ?_
           try go_wp2
           go_roundg k2
           case measure => have := HK1.out; have := HK2.out; omega
           case rel => exact ⟨(wrap64 (x22_2 + 1)), d53c, H', ⟨by have := HK1.out; have := HK2.out; omega⟩, ⟨d53a⟩⟩
       · rw [if_neg c10] at H
         have c10b0 : decide (x22_2 < (tk9.length : Int)) = false := decide_eq_false c10
         clear c10
         have H' := Aside0.mk H
         clear H
         go_wp2
         go_roundg k2
         case measure => have := HK1.out; have := HK2.out; omega
         case rel => exact ⟨(wrap64 (x13_1 + 1)), d53c, H', ⟨by have := HK1.out; have := HK2.out; omega⟩, ⟨d53a⟩⟩
   · rw [if_neg c4] at H
     have c4b0 : decide (x13_1 < (l2.length : Int)) = false := decide_eq_false c4
     clear c4
     obtain rfl := Option.some.inj H
     go_wp2
     go_ret
     exact ⟨by first | rfl | (simp [errW_none, errW_some] <;> rfl) | (simp [*, errW_none, errW_some] <;> rfl), d53a⟩
def contact_CheckBooking.f (k : Nat) (l0 : List (S33)) (a1 : Int) (l2 : List Int) : Option (Int) := (contact_CheckPasses.f k l0).bind fun t101 => ((kit_Range.f a1 0 10000000).bind fun t102 => ((kit_First.f k (([t101, t102] : List Int))).bind fun t106 => (if t106 = 0 then ((contact_checkBooked.f k l0 l2).bind fun t107 => (if t107 = 0 then ((contact_clash.f k l0 a1 l2).bind fun t108 => (if t108 = true then (some 12) else (some 0))) else (some t107))) else (some t106))))
theorem d22a {p : Prop} (h : p := by repeat (first | exact (Kd.C_below HR0.out (by repeat (first | (with_reducible first | exact HB.out | apply below_alloc | apply pw_below_drewN | apply below_drew1) | exact HB.out))) | (with_reducible refine Kd.C_alloc ?_ _) | (with_reducible refine Kd.C_drewN ?_ _) | (with_reducible refine Kd.C_drew ?_))) : p := h
theorem d22b {p : Prop} (h : p := by repeat (first | exact (Kd.C_below HR2.out (by repeat (first | (with_reducible first | exact HB.out | apply below_alloc | apply pw_below_drewN | apply below_drew1) | exact HB.out))) | (with_reducible refine Kd.C_alloc ?_ _) | (with_reducible refine Kd.C_drewN ?_ _) | (with_reducible refine Kd.C_drew ?_))) : p := h
theorem d22c {p : Prop} (h : p := by (try simp only [List.map_toArray, List.map_cons, List.map_nil]); first | done | rfl | (simp only [List.length_drop, List.length_take]; rfl)) : p := h
theorem d22d {p : Prop} (h : p := by repeat (first | (with_reducible first | exact HB.out | apply below_alloc | apply pw_below_drewN | apply below_drew1) | exact HB.out)) : p := h
theorem d22e {p : Prop} (h : p := by first | rfl | (simp [errW_none, errW_some] <;> rfl) | (simp [*, errW_none, errW_some] <;> rfl)) : p := h
theorem d22f {p : Prop} (h : p := by first | (go_simp; done) | (go_simp; rfl)) : p := h
theorem d22g {p : Prop} (h : p := by exact C_go (Kd.R_reads' HO105.out).2.2) : p := h
set_option maxHeartbeats 8000000 in
set_option maxRecDepth 100000 in
theorem contact_CheckBooking.calls (k : Nat) (A0 : Option Addr) (c0 : Nat) (l0 : List (S33)) (a1 : Int) (A2 : Option Addr) (c2 : Nat) (l2 : List Int) (r : Int) (w : World) (hr0 : Kd.C k33 w A0 l0.length l0) (hc0 : l0.length ≤ c0) (hr2 : Kd.C (Kd.int .i64) w A2 l2.length l2) (hc2 : l2.length ≤ c2) (h : contact_CheckBooking.f k l0 a1 l2 = some r) :
 Calls Try.prog 22 #[.slice A0 l0.length c0, .int .i64 a1, .slice A2 l2.length c2] w fun e w' => e = .returned (.int .i64 r) ∧ Below w.heap.size w w' := by
 have HR0 := Aside0.mk hr0
 have HC0 := Aside0.mk hc0
 clear hr0 hc0
 have HR2 := Aside0.mk hr2
 have HC2 := Aside0.mk hc2
 clear hr2 hc2
 have HB := Aside0.mk (Below.refl w.heap.size w)
 have H : ((contact_CheckPasses.f k l0).bind fun t101 => ((kit_Range.f a1 0 10000000).bind fun t102 => ((kit_First.f k (([t101, t102] : List Int))).bind fun t106 => (if t106 = 0 then ((contact_checkBooked.f k l0 l2).bind fun t107 => (if t107 = 0 then ((contact_clash.f k l0 a1 l2).bind fun t108 => (if t108 = true then (some 12) else (some 0))) else (some t107))) else (some t106))))) = some r := h
 clear h
 replace H := bindS H; obtain ⟨t101, A4, H⟩ := H
 replace H := bindS H; obtain ⟨t102, A5, H⟩ := H
 obtain ⟨y103, hy103⟩ : ∃ y_ : List Int, y_ = (([t101, t102] : List Int)) := ⟨_, rfl⟩
 replace H : ((kit_First.f k y103).bind fun t106 => (if t106 = 0 then ((contact_checkBooked.f k l0 l2).bind fun t107 => (if t107 = 0 then ((contact_clash.f k l0 a1 l2).bind fun t108 => (if t108 = true then (some 12) else (some 0))) else (some t107))) else (some t106))) = some r := by first | (rw [hy103]; with_reducible exact H) | (have H2_ := (Option.bind_some _ _).symm.trans H; rw [hy103]; with_reducible exact H2_) | (have H2_ := (Option.bind_some _ _).symm.trans H; with_reducible exact H2_) | with_reducible exact H | (rw [hy103]; exact H) | exact H
 have Ny103 := Aside0.mk hy103
 clear hy103
 replace H := bindS H; obtain ⟨t106, A6, H⟩ := H
 by_cases c7 : t106 = 0
 · rw [if_pos c7] at H
   have c7b0 : (t106 == 0) = true := beq_iff_eq.mpr c7
   have c7b1 : (t106 != 0) = false := bne_eq_false_iff_eq.mpr c7
   clear c7
   replace H := bindS H; obtain ⟨t107, A8, H⟩ := H
   by_cases c9 : t107 = 0
   · rw [if_pos c9] at H
     have c9b0 : (t107 == 0) = true := beq_iff_eq.mpr c9
     have c9b1 : (t107 != 0) = false := bne_eq_false_iff_eq.mpr c9
     clear c9
     replace H := bindS H; obtain ⟨t108, A10, H⟩ := H
     by_cases c11 : t108 = true
     · subst c11
       replace H := iteT H
       obtain rfl := Option.some.inj H
       go_enter Try.func22, Try.ntmps22
       go_wp2_with (first | ((with_reducible refine gate_callee (f := 18) rfl ?_); refine goesL_ (some 10) rfl rfl Try.func18 (by kernel_rfl) rfl #[.slice A0 l0.length c0] rfl d22c ?_; (with_reducible refine (contact_CheckPasses.calls k _ _ l0 t101 _ ?side1 ?side2 A4.out).mono ?_); (case side1 => exact C_go HR0.out); (case side2 => exact HC0.out); rintro e w12 ⟨rfl, hb⟩; refine ⟨_, rfl, ?_⟩; replace HB := Aside0.mk (below_step d22d hb); (try clear hb)) | ((with_reducible refine gate_callee (f := 40) rfl ?_); refine goesL_ (some 12) rfl rfl Try.func40 (by kernel_rfl) rfl #[.int .i64 a1, .int .i64 0, .int .i64 10000000] rfl d22c ?_; (with_reducible refine (kit_Range.calls a1 0 10000000 t102 _ A5.out).mono ?_); rintro e w' ⟨rfl, ⟨nd, rfl⟩⟩; refine ⟨_, rfl, ?_⟩) | ((with_reducible refine gate_dst (N := 13) rfl ?_); refine Kd.R_lit (Kd.int .i64) _ 23 ?hg (N := 13) ?hd (xs := ([t101, t102] : List Int)) (inner := [.int .i64 t101, .int .i64 t102]) (ok := fun _ => True) (okp := fun _ => True) ?hr ?hp (fun _ hk => hk) trivial (Below.refl _ _) (Nat.le_refl _) (by simp) ?_; (case hd => rfl); (case hg => rfl); (case hr => exact d22f); (case hp => exact (Reps.one (show Kd.M (Kd.int .i64) _ _ _ t101 [.int .i64 t101] from rfl) (Reps.one (show Kd.M (Kd.int .i64) _ _ _ t102 [.int .i64 t102] from rfl) (Reps.none _ _)))); intro v104 w13 ho14 hb hg_ hnew_; clear hg_ hnew_; (first | rw [← Ny103.out] at ho14 | (simp only [Int.reduceToNat] at ho14; rw [← Ny103.out] at ho14)); have n0_ := Aside0.mk (Kd.R_lower ho14 (below_size d22d)); have n1_ := Aside0.mk (below_step d22d hb); clear HB; have HO105 := n0_; have HB := n1_; clear n0_ n1_; clear hb ho14; obtain ⟨Ao15, co15, eo15⟩ := Kd.R_slice HO105.out; subst eo15) | ((with_reducible refine gate_callee (f := 38) rfl ?_); refine goesL_ (some 14) rfl rfl Try.func38 (by kernel_rfl) rfl #[.slice Ao15 y103.length co15] rfl d22c ?_; (with_reducible refine (kit_First.calls k _ _ y103 t106 _ ?side1 ?side2 A6.out).mono ?_); (case side1 => exact d22g); (case side2 => exact (Kd.R_reads' HO105.out).2.1); rintro e w' ⟨rfl, ⟨nd, rfl⟩⟩; refine ⟨_, rfl, ?_⟩) | ((with_reducible refine gate_callee (f := 52) rfl ?_); refine goesL_ (some 20) rfl rfl Try.func52 (by kernel_rfl) rfl #[.slice A0 l0.length c0, .slice A2 l2.length c2] rfl d22c ?_; (with_reducible refine (contact_checkBooked.calls k _ _ l0 _ _ l2 t107 _ ?side1 ?side2 ?side3 ?side4 A8.out).mono ?_); (case side1 => exact d22a); (case side2 => exact HC0.out); (case side3 => exact d22b); (case side4 => exact HC2.out); rintro e w' ⟨rfl, ⟨nd, rfl⟩⟩; refine ⟨_, rfl, ?_⟩) | ((with_reducible refine gate_callee (f := 53) rfl ?_); refine goesL_ (some 27) rfl rfl Try.func53 (by kernel_rfl) rfl #[.slice A0 l0.length c0, .int .i64 a1, .slice A2 l2.length c2] rfl d22c ?_; (with_reducible refine (contact_clash.calls k _ _ l0 a1 _ _ l2 true _ ?side1 ?side2 ?side3 ?side4 A10.out).mono ?_); (case side1 => exact d22a); (case side2 => exact HC0.out); (case side3 => exact d22b); (case side4 => exact HC2.out); rintro e w16 ⟨rfl, hb⟩; refine ⟨_, rfl, ?_⟩; have n0_ := Aside0.mk (Kd.R_below (by (with_reducible repeat (first | apply Kd.R_alloc | apply Kd.R_drewN | apply Kd.R_drew)); exact HO105.out) hb); have n1_ := Aside0.mk (below_step d22d hb); clear HO105; clear HB; have HO105 := n0_; have HB := n1_; clear n0_ n1_; (try clear hb)))
       go_ret
       exact ⟨d22e, d22d⟩
     · replace c11 := Bool.eq_false_iff.mpr c11
       subst c11
       replace H := iteF H
       obtain rfl := Option.some.inj H
       go_enter Try.func22, Try.ntmps22
       go_wp2_with (first | ((with_reducible refine gate_callee (f := 18) rfl ?_); refine goesL_ (some 10) rfl rfl Try.func18 (by kernel_rfl) rfl #[.slice A0 l0.length c0] rfl d22c ?_; (with_reducible refine (contact_CheckPasses.calls k _ _ l0 t101 _ ?side1 ?side2 A4.out).mono ?_); (case side1 => exact C_go HR0.out); (case side2 => exact HC0.out); rintro e w17 ⟨rfl, hb⟩; refine ⟨_, rfl, ?_⟩; replace HB := Aside0.mk (below_step d22d hb); (try clear hb)) | ((with_reducible refine gate_callee (f := 40) rfl ?_); refine goesL_ (some 12) rfl rfl Try.func40 (by kernel_rfl) rfl #[.int .i64 a1, .int .i64 0, .int .i64 10000000] rfl d22c ?_; (with_reducible refine (kit_Range.calls a1 0 10000000 t102 _ A5.out).mono ?_); rintro e w' ⟨rfl, ⟨nd, rfl⟩⟩; refine ⟨_, rfl, ?_⟩) | ((with_reducible refine gate_dst (N := 13) rfl ?_); refine Kd.R_lit (Kd.int .i64) _ 23 ?hg (N := 13) ?hd (xs := ([t101, t102] : List Int)) (inner := [.int .i64 t101, .int .i64 t102]) (ok := fun _ => True) (okp := fun _ => True) ?hr ?hp (fun _ hk => hk) trivial (Below.refl _ _) (Nat.le_refl _) (by simp) ?_; (case hd => rfl); (case hg => rfl); (case hr => exact d22f); (case hp => exact (Reps.one (show Kd.M (Kd.int .i64) _ _ _ t101 [.int .i64 t101] from rfl) (Reps.one (show Kd.M (Kd.int .i64) _ _ _ t102 [.int .i64 t102] from rfl) (Reps.none _ _)))); intro v104 w18 ho19 hb hg_ hnew_; clear hg_ hnew_; (first | rw [← Ny103.out] at ho19 | (simp only [Int.reduceToNat] at ho19; rw [← Ny103.out] at ho19)); have n0_ := Aside0.mk (Kd.R_lower ho19 (below_size d22d)); have n1_ := Aside0.mk (below_step d22d hb); clear HB; have HO105 := n0_; have HB := n1_; clear n0_ n1_; clear hb ho19; obtain ⟨Ao20, co20, eo20⟩ := Kd.R_slice HO105.out; subst eo20) | ((with_reducible refine gate_callee (f := 38) rfl ?_); refine goesL_ (some 14) rfl rfl Try.func38 (by kernel_rfl) rfl #[.slice Ao20 y103.length co20] rfl d22c ?_; (with_reducible refine (kit_First.calls k _ _ y103 t106 _ ?side1 ?side2 A6.out).mono ?_); (case side1 => exact d22g); (case side2 => exact (Kd.R_reads' HO105.out).2.1); rintro e w' ⟨rfl, ⟨nd, rfl⟩⟩; refine ⟨_, rfl, ?_⟩) | ((with_reducible refine gate_callee (f := 52) rfl ?_); refine goesL_ (some 20) rfl rfl Try.func52 (by kernel_rfl) rfl #[.slice A0 l0.length c0, .slice A2 l2.length c2] rfl d22c ?_; (with_reducible refine (contact_checkBooked.calls k _ _ l0 _ _ l2 t107 _ ?side1 ?side2 ?side3 ?side4 A8.out).mono ?_); (case side1 => exact d22a); (case side2 => exact HC0.out); (case side3 => exact d22b); (case side4 => exact HC2.out); rintro e w' ⟨rfl, ⟨nd, rfl⟩⟩; refine ⟨_, rfl, ?_⟩) | ((with_reducible refine gate_callee (f := 53) rfl ?_); refine goesL_ (some 27) rfl rfl Try.func53 (by kernel_rfl) rfl #[.slice A0 l0.length c0, .int .i64 a1, .slice A2 l2.length c2] rfl d22c ?_; (with_reducible refine (contact_clash.calls k _ _ l0 a1 _ _ l2 false _ ?side1 ?side2 ?side3 ?side4 A10.out).mono ?_); (case side1 => exact d22a); (case side2 => exact HC0.out); (case side3 => exact d22b); (case side4 => exact HC2.out); rintro e w21 ⟨rfl, hb⟩; refine ⟨_, rfl, ?_⟩; have n0_ := Aside0.mk (Kd.R_below (by (with_reducible repeat (first | apply Kd.R_alloc | apply Kd.R_drewN | apply Kd.R_drew)); exact HO105.out) hb); have n1_ := Aside0.mk (below_step d22d hb); clear HO105; clear HB; have HO105 := n0_; have HB := n1_; clear n0_ n1_; (try clear hb)))
       go_ret
       exact ⟨d22e, d22d⟩
   · rw [if_neg c9] at H
     have c9b0 : (t107 == 0) = false := beq_eq_false_iff_ne.mpr c9
     have c9b1 : (t107 != 0) = true := bne_iff_ne.mpr c9
     obtain rfl := Option.some.inj H
     go_enter Try.func22, Try.ntmps22
     go_wp2_with (first | ((with_reducible refine gate_callee (f := 18) rfl ?_); refine goesL_ (some 10) rfl rfl Try.func18 (by kernel_rfl) rfl #[.slice A0 l0.length c0] rfl d22c ?_; (with_reducible refine (contact_CheckPasses.calls k _ _ l0 t101 _ ?side1 ?side2 A4.out).mono ?_); (case side1 => exact C_go HR0.out); (case side2 => exact HC0.out); rintro e w22 ⟨rfl, hb⟩; refine ⟨_, rfl, ?_⟩; replace HB := Aside0.mk (below_step d22d hb); (try clear hb)) | ((with_reducible refine gate_callee (f := 40) rfl ?_); refine goesL_ (some 12) rfl rfl Try.func40 (by kernel_rfl) rfl #[.int .i64 a1, .int .i64 0, .int .i64 10000000] rfl d22c ?_; (with_reducible refine (kit_Range.calls a1 0 10000000 t102 _ A5.out).mono ?_); rintro e w' ⟨rfl, ⟨nd, rfl⟩⟩; refine ⟨_, rfl, ?_⟩) | ((with_reducible refine gate_dst (N := 13) rfl ?_); refine Kd.R_lit (Kd.int .i64) _ 23 ?hg (N := 13) ?hd (xs := ([t101, t102] : List Int)) (inner := [.int .i64 t101, .int .i64 t102]) (ok := fun _ => True) (okp := fun _ => True) ?hr ?hp (fun _ hk => hk) trivial (Below.refl _ _) (Nat.le_refl _) (by simp) ?_; (case hd => rfl); (case hg => rfl); (case hr => exact d22f); (case hp => exact (Reps.one (show Kd.M (Kd.int .i64) _ _ _ t101 [.int .i64 t101] from rfl) (Reps.one (show Kd.M (Kd.int .i64) _ _ _ t102 [.int .i64 t102] from rfl) (Reps.none _ _)))); intro v104 w23 ho24 hb hg_ hnew_; clear hg_ hnew_; (first | rw [← Ny103.out] at ho24 | (simp only [Int.reduceToNat] at ho24; rw [← Ny103.out] at ho24)); have n0_ := Aside0.mk (Kd.R_lower ho24 (below_size d22d)); have n1_ := Aside0.mk (below_step d22d hb); clear HB; have HO105 := n0_; have HB := n1_; clear n0_ n1_; clear hb ho24; obtain ⟨Ao25, co25, eo25⟩ := Kd.R_slice HO105.out; subst eo25) | ((with_reducible refine gate_callee (f := 38) rfl ?_); refine goesL_ (some 14) rfl rfl Try.func38 (by kernel_rfl) rfl #[.slice Ao25 y103.length co25] rfl d22c ?_; (with_reducible refine (kit_First.calls k _ _ y103 t106 _ ?side1 ?side2 A6.out).mono ?_); (case side1 => exact d22g); (case side2 => exact (Kd.R_reads' HO105.out).2.1); rintro e w' ⟨rfl, ⟨nd, rfl⟩⟩; refine ⟨_, rfl, ?_⟩) | ((with_reducible refine gate_callee (f := 52) rfl ?_); refine goesL_ (some 20) rfl rfl Try.func52 (by kernel_rfl) rfl #[.slice A0 l0.length c0, .slice A2 l2.length c2] rfl d22c ?_; (with_reducible refine (contact_checkBooked.calls k _ _ l0 _ _ l2 t107 _ ?side1 ?side2 ?side3 ?side4 A8.out).mono ?_); (case side1 => exact d22a); (case side2 => exact HC0.out); (case side3 => exact d22b); (case side4 => exact HC2.out); rintro e w' ⟨rfl, ⟨nd, rfl⟩⟩; refine ⟨_, rfl, ?_⟩))
     go_ret
     exact ⟨d22e, d22d⟩
 · rw [if_neg c7] at H
   have c7b0 : (t106 == 0) = false := beq_eq_false_iff_ne.mpr c7
   have c7b1 : (t106 != 0) = true := bne_iff_ne.mpr c7
   obtain rfl := Option.some.inj H
   go_enter Try.func22, Try.ntmps22
   go_wp2_with (first | ((with_reducible refine gate_callee (f := 18) rfl ?_); refine goesL_ (some 10) rfl rfl Try.func18 (by kernel_rfl) rfl #[.slice A0 l0.length c0] rfl d22c ?_; (with_reducible refine (contact_CheckPasses.calls k _ _ l0 t101 _ ?side1 ?side2 A4.out).mono ?_); (case side1 => exact C_go HR0.out); (case side2 => exact HC0.out); rintro e w26 ⟨rfl, hb⟩; refine ⟨_, rfl, ?_⟩; replace HB := Aside0.mk (below_step d22d hb); (try clear hb)) | ((with_reducible refine gate_callee (f := 40) rfl ?_); refine goesL_ (some 12) rfl rfl Try.func40 (by kernel_rfl) rfl #[.int .i64 a1, .int .i64 0, .int .i64 10000000] rfl d22c ?_; (with_reducible refine (kit_Range.calls a1 0 10000000 t102 _ A5.out).mono ?_); rintro e w' ⟨rfl, ⟨nd, rfl⟩⟩; refine ⟨_, rfl, ?_⟩) | ((with_reducible refine gate_dst (N := 13) rfl ?_); refine Kd.R_lit (Kd.int .i64) _ 23 ?hg (N := 13) ?hd (xs := ([t101, t102] : List Int)) (inner := [.int .i64 t101, .int .i64 t102]) (ok := fun _ => True) (okp := fun _ => True) ?hr ?hp (fun _ hk => hk) trivial (Below.refl _ _) (Nat.le_refl _) (by simp) ?_; (case hd => rfl); (case hg => rfl); (case hr => exact d22f); (case hp => exact (Reps.one (show Kd.M (Kd.int .i64) _ _ _ t101 [.int .i64 t101] from rfl) (Reps.one (show Kd.M (Kd.int .i64) _ _ _ t102 [.int .i64 t102] from rfl) (Reps.none _ _)))); intro v104 w27 ho28 hb hg_ hnew_; clear hg_ hnew_; (first | rw [← Ny103.out] at ho28 | (simp only [Int.reduceToNat] at ho28; rw [← Ny103.out] at ho28)); have n0_ := Aside0.mk (Kd.R_lower ho28 (below_size d22d)); have n1_ := Aside0.mk (below_step d22d hb); clear HB; have HO105 := n0_; have HB := n1_; clear n0_ n1_; clear hb ho28; obtain ⟨Ao29, co29, eo29⟩ := Kd.R_slice HO105.out; subst eo29) | ((with_reducible refine gate_callee (f := 38) rfl ?_); refine goesL_ (some 14) rfl rfl Try.func38 (by kernel_rfl) rfl #[.slice Ao29 y103.length co29] rfl d22c ?_; (with_reducible refine (kit_First.calls k _ _ y103 t106 _ ?side1 ?side2 A6.out).mono ?_); (case side1 => exact d22g); (case side2 => exact (Kd.R_reads' HO105.out).2.1); rintro e w' ⟨rfl, ⟨nd, rfl⟩⟩; refine ⟨_, rfl, ?_⟩))
   go_ret
   exact ⟨d22e, d22d⟩
end Go.Proofs.Ytbngmblgkkdhpaa.Q
