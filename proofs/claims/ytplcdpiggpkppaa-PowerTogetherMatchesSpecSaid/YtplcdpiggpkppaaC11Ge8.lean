-- Made by wip/tools/claimp.py of this session's texts; Lean checks it.
import Derived.Test.YtplcdpiggpkppaaC11Q0
import Derived.Test.YtplcdpiggpkppaaC11Ge1
import Derived.Test.YtplcdpiggpkppaaC11Ge3
import Derived.Test.YtplcdpiggpkppaaC11Ge4
import Derived.Test.YtplcdpiggpkppaaC11Ge6
import Derived.Test.YtplcdpiggpkppaaC11Ge7
namespace Go.Proofs.Ytplcdpiggpkppaa.Q
open Go.RowKit Go.Proofs.YtplcdpiggpkppaaW.PrintWords Go.Proofs.YtplcdpiggpkppaaW.PrintLast Go.Proofs.YtplcdpiggpkppaaW.PrintMore
attribute [local go_sem] max2_int min2_int max_two min_two max_three min_three max_four min_four
open Go.Proofs.Ytplcdpiggpkppaa.Base
attribute [local go_sem high] str_leq str_gtr str_geq
set_option linter.unusedVariables false
set_option linter.unusedSimpArgs false
def perigeelaw9_awake.f (k : Nat)  : Option (Bool) := (power_Sunny.f k (([(⟨2, 5⟩ : S72)] : List (S72))) 0 4).bind fun bt104 => (if bt104.2 = 0 then (some (bt104.1 == 2)) else (some false))
theorem d27a {p : Prop} (h : p := by repeat (first | (with_reducible first | exact HB.out | apply below_alloc | apply pw_below_drewN | apply below_drew1) | exact HB.out)) : p := h
set_option maxHeartbeats 8000000 in
set_option maxRecDepth 100000 in
theorem perigeelaw9_awake.calls (k : Nat)  (r : Bool) (w : World) (h : perigeelaw9_awake.f k  = some r) :
 Calls Try.prog 27 #[] w fun e w' => e = .returned (.bool r) ∧ Below w.heap.size w w' := by
 have hu72 := Try.underlying72
 have HB := Aside0.mk (Below.refl w.heap.size w)
 have H : ((power_Sunny.f k (([(⟨2, 5⟩ : S72)] : List (S72))) 0 4).bind fun bt104 => (if bt104.2 = 0 then (some (bt104.1 == 2)) else (some false))) = some r := h
 clear h
 obtain ⟨y101, hy101⟩ : ∃ y_ : List (S72), y_ = (([(⟨2, 5⟩ : S72)] : List (S72))) := ⟨_, rfl⟩
 replace H : ((power_Sunny.f k y101 0 4).bind fun bt104 => (if bt104.2 = 0 then (some (bt104.1 == 2)) else (some false))) = some r := by first | (rw [hy101]; with_reducible exact H) | (have H2_ := (Option.bind_some _ _).symm.trans H; rw [hy101]; with_reducible exact H2_) | (have H2_ := (Option.bind_some _ _).symm.trans H; with_reducible exact H2_) | with_reducible exact H | (rw [hy101]; exact H) | exact H
 have Ny101 := Aside0.mk hy101
 clear hy101
 replace H := bindS H; obtain ⟨⟨t104, t105⟩, A1, H⟩ := H
 by_cases c2 : t105 = 0
 · rw [if_pos c2] at H
   have c2b0 : (t105 == 0) = true := beq_iff_eq.mpr c2
   have c2b1 : (t105 != 0) = false := bne_eq_false_iff_eq.mpr c2
   clear c2
   obtain rfl := Option.some.inj H
   go_enter Try.func27, Try.ntmps27
   go_wp2_with (first | ((with_reducible refine gate_dst (N := 5) rfl ?_); refine Kd.R_lit k72 _ 72 ?hg (N := 5) ?hd (xs := ([(⟨2, 5⟩ : S72)] : List (S72))) (inner := [.int .i64 2, .int .i64 5]) (ok := fun _ => True) (okp := fun _ => True) ?hr ?hp (fun _ hk => hk) trivial (Below.refl _ _) (Nat.le_refl _) (by simp) ?_; (case hd => rfl); (case hg => rfl); (case hr => first | (go_simp; done) | (go_simp; rfl)); (case hp => exact (Reps.c2 (show Kd.M k72 _ _ _ (⟨2, 5⟩ : S72) [.int .i64 2, .int .i64 5] from (k72_mkM _ _ _ (⟨2, 5⟩ : S72) )) (Reps.none _ _))); intro v102 w3 ho4 hb hg_ hnew_; clear hg_ hnew_; (first | rw [← Ny101.out] at ho4 | (simp only [Int.reduceToNat] at ho4; rw [← Ny101.out] at ho4)); have n0_ := Aside0.mk (Kd.R_lower ho4 (below_size d27a)); have n1_ := Aside0.mk (below_step d27a hb); clear HB; have HO103 := n0_; have HB := n1_; clear n0_ n1_; clear hb ho4; obtain ⟨Ao5, co5, eo5⟩ := Kd.R_slice HO103.out; subst eo5) | ((with_reducible refine gate_callee (f := 23) rfl ?_); refine goesL_ (some 6) rfl rfl Try.func23 (by kernel_rfl) rfl #[.slice Ao5 y101.length co5, .int .i64 0, .int .i64 4] rfl (by (try simp only [List.map_toArray, List.map_cons, List.map_nil]); first | done | rfl | (simp only [List.length_drop, List.length_take]; rfl)) ?_; (with_reducible refine (power_Sunny.calls k _ _ y101 0 4 t104 t105 _ ?side1 ?side2 A1.out).mono ?_); (case side1 => exact C_go (Kd.R_reads' HO103.out).2.2); (case side2 => exact (Kd.R_reads' HO103.out).2.1); rintro e w6 ⟨rfl, hb⟩; refine ⟨_, rfl, ?_⟩; have n0_ := Aside0.mk (Kd.R_below (by (with_reducible repeat (first | apply Kd.R_alloc | apply Kd.R_drewN | apply Kd.R_drew)); exact HO103.out) hb); have n1_ := Aside0.mk (below_step d27a hb); clear HO103; clear HB; have HO103 := n0_; have HB := n1_; clear n0_ n1_; (try clear hb)))
   go_ret
   exact ⟨by first | rfl | (simp [errW_none, errW_some] <;> rfl) | (simp [*, errW_none, errW_some] <;> rfl), d27a⟩
 · rw [if_neg c2] at H
   have c2b0 : (t105 == 0) = false := beq_eq_false_iff_ne.mpr c2
   have c2b1 : (t105 != 0) = true := bne_iff_ne.mpr c2
   obtain rfl := Option.some.inj H
   go_enter Try.func27, Try.ntmps27
   go_wp2_with (first | ((with_reducible refine gate_dst (N := 5) rfl ?_); refine Kd.R_lit k72 _ 72 ?hg (N := 5) ?hd (xs := ([(⟨2, 5⟩ : S72)] : List (S72))) (inner := [.int .i64 2, .int .i64 5]) (ok := fun _ => True) (okp := fun _ => True) ?hr ?hp (fun _ hk => hk) trivial (Below.refl _ _) (Nat.le_refl _) (by simp) ?_; (case hd => rfl); (case hg => rfl); (case hr => first | (go_simp; done) | (go_simp; rfl)); (case hp => exact (Reps.c2 (show Kd.M k72 _ _ _ (⟨2, 5⟩ : S72) [.int .i64 2, .int .i64 5] from (k72_mkM _ _ _ (⟨2, 5⟩ : S72) )) (Reps.none _ _))); intro v102 w7 ho8 hb hg_ hnew_; clear hg_ hnew_; (first | rw [← Ny101.out] at ho8 | (simp only [Int.reduceToNat] at ho8; rw [← Ny101.out] at ho8)); have n0_ := Aside0.mk (Kd.R_lower ho8 (below_size d27a)); have n1_ := Aside0.mk (below_step d27a hb); clear HB; have HO103 := n0_; have HB := n1_; clear n0_ n1_; clear hb ho8; obtain ⟨Ao9, co9, eo9⟩ := Kd.R_slice HO103.out; subst eo9) | ((with_reducible refine gate_callee (f := 23) rfl ?_); refine goesL_ (some 6) rfl rfl Try.func23 (by kernel_rfl) rfl #[.slice Ao9 y101.length co9, .int .i64 0, .int .i64 4] rfl (by (try simp only [List.map_toArray, List.map_cons, List.map_nil]); first | done | rfl | (simp only [List.length_drop, List.length_take]; rfl)) ?_; (with_reducible refine (power_Sunny.calls k _ _ y101 0 4 t104 t105 _ ?side1 ?side2 A1.out).mono ?_); (case side1 => exact C_go (Kd.R_reads' HO103.out).2.2); (case side2 => exact (Kd.R_reads' HO103.out).2.1); rintro e w10 ⟨rfl, hb⟩; refine ⟨_, rfl, ?_⟩; have n0_ := Aside0.mk (Kd.R_below (by (with_reducible repeat (first | apply Kd.R_alloc | apply Kd.R_drewN | apply Kd.R_drew)); exact HO103.out) hb); have n1_ := Aside0.mk (below_step d27a hb); clear HO103; clear HB; have HO103 := n0_; have HB := n1_; clear n0_ n1_; (try clear hb)))
   go_ret
   exact ⟨by first | rfl | (simp [errW_none, errW_some] <;> rfl) | (simp [*, errW_none, errW_some] <;> rfl), d27a⟩
def slices_Sort_int_int.f (l0 : List Int) : Option (List Int) := if l0.length < 4611686018427387904 then some (l0.mergeSort fun x y => decide (x ≤ y)) else none
open Go.Sort in
theorem slices_Sort_int_int.calls (P0_ : Nat → Prop) (u9000_ : Value) (l0 : List Int) (r : List Int) (w0 w : World) (hB : Below w0.heap.size w0 w) (ho0 : Kd.R (Kd.int .i64) 3 w w0.heap.size P0_ u9000_ l0) (h : slices_Sort_int_int.f l0 = some r) :
 Calls Try.prog 89 #[u9000_] w fun e w' => e = .returned (.tuple #[]) ∧ Kd.R (Kd.int .i64) 3 w' w0.heap.size (fun k_ => (P0_ k_ ∨ w.heap.size ≤ k_)) u9000_ r ∧ Below w0.heap.size w0 w' ∧ Kept w w' (fun k_ => P0_ k_) := by
 unfold slices_Sort_int_int.f at h
 split at h
 · rename_i hl
   obtain rfl := Option.some.inj h
   have ho := Kd.own_of_R ho0
   rcases ho.2 with ⟨hv, hn⟩ | ⟨g, cap, cur, hv, hbase, hb, h1, h2, h3, h4⟩
   · subst hv
     obtain rfl : l0 = [] := List.eq_nil_of_length_eq_zero hn
     refine (Try.slices_Sort_int_none none 0 w).mono ?_
     rintro e w' ⟨rfl, rfl⟩
     exact ⟨rfl, by rw [List.mergeSort_nil]; exact Kd.R_nil _ _ _ _ _, hB, Kept.refl _ _⟩
   · subst hv
     have hp : P0_ g := ho0.1 g rfl
     have hperm := List.mergeSort_perm l0 (fun x y => decide (x ≤ y))
     refine (Try.slices_Sort_int g 0 cap l0 w (holds_of_blockI hb (by rw [Nat.mul_one] at h4; exact h4)) (blk_lt hb) hl).mono ?_
     rintro e w' ⟨rfl, n, os, rfl⟩
     have hg := grownBy_sortedI (w := w) (g := g) (n := n) (os := os) (l0.mergeSort fun x y => decide (x ≤ y)).toArray
     have hown := ownsRow_sortedI (n := n) (os := os) hperm.length_eq hbase hb h1 h2 h3
     refine ⟨rfl, Kd.R_of_own (by rw [hperm.length_eq]; exact hown) (fun k hk => .inl ((show g = k from by simpa [Value.ownBlock] using hk) ▸ hp)), pw_below_grown hB _ hB.size hg (fun j hj => by cases hj; exact hbase), ⟨hg.size, fun i hi hn => hg.block i hi (fun e => hn ((show g = i from by simpa using e.symm) ▸ hp))⟩⟩
 · cases h
/-- What is told of moments and what is added at them. -/
def Tally (D : DataW Unit) (A : List (Int × Int)) : Prop := Maps.IsMap D ∧ (∀ t, D.atKey (.int .i64 t) (.lit (.int .i64 0)) = .lit (.int .i64 (delta t A))) ∧ ∀ t, Maps.has D (.int .i64 t) = decide (∃ e ∈ A, e.1 = t)
theorem Tally.empty : Tally (.map []) [] := ⟨Maps.isMap_empty, fun _ => rfl, fun _ => rfl⟩
theorem Tally.put {D : DataW Unit} {A : List (Int × Int)} (h : Tally D A) (t n : Int) : Tally (D.put (.int .i64 t) (.lit (.int .i64 (delta t A + n)))) (A ++ [(t, n)]) := by
  obtain ⟨h1, h2, h3⟩ := h
  refine ⟨h1.put _ _, fun s => ?_, fun s => ?_⟩
  · rw [delta_append]
    by_cases e : s = t
    · subst e
      rw [Maps.atKey_put_same h1 (show WideAt.IsKeyLit (.int .i64 s) from trivial)]
      simp [delta]
    · rw [Maps.atKey_put_other (fun q => e (by injection q)), h2 s]
      simp [delta, Ne.symm e]
  · by_cases e : s = t
    · subst e
      rw [Maps.has_put_same h1 (show WideAt.IsKeyLit (.int .i64 s) from trivial)]
      simp
    · rw [Maps.has_put_other (fun q => e (by injection q)), h3 s]
      simp [Ne.symm e]
/-- Numbers that are small. -/
def Small40 (A : List (Int × Int)) : Prop := ∀ e ∈ A, (-4611686018427387904 ≤ e.1 ∧ e.1 ≤ 4611686018427387904) ∧ (-68719476736 ≤ e.2 ∧ e.2 ≤ 68719476736)
theorem delta_bd (t : Int) : ∀ {A : List (Int × Int)}, Small40 A → -((A.length : Int) * 68719476736) ≤ delta t A ∧ delta t A ≤ (A.length : Int) * 68719476736
  | [], _ => by simp [delta]
  | e :: A, h => by
    have ih := delta_bd t (A := A) (fun x hx => h x (List.mem_cons_of_mem _ hx))
    have he := (h e List.mem_cons_self).2
    simp only [delta, List.length_cons]
    split <;> omega
theorem lawInt : Maps.Keyed Try.prog 3 := Maps.int_keyed Try.underlying3
theorem zeroInt (w : World) : (zeroValue 3).run Try.prog w = .ok (.int .i64 0) w := by kernel_rfl
theorem flow_w1 {A : List (Int × Int)} {f t n : Int} (hS : Small40 (A ++ [(f, n), (t, -n)])) (hl : A.length ≤ 4000000) : wrap64 (delta f A + n) = delta f A + n := by
  have h1 := delta_bd f (A := A) (fun x hx => hS x (List.mem_append_left _ hx))
  have h2 := (hS (f, n) (by simp)).2
  unfold wrap64
  omega
theorem flow_w2 {A : List (Int × Int)} {f t n : Int} (hS : Small40 (A ++ [(f, n), (t, -n)])) (hl : A.length ≤ 4000000) : wrap64 (delta t (A ++ [(f, n)]) - n) = delta t (A ++ [(f, n)]) + -n := by
  have h1 := delta_bd t (A := A ++ [(f, n)]) (fun x hx => by
    rcases List.mem_append.1 hx with q | q
    · exact hS x (List.mem_append_left _ q)
    · exact hS x (by simp only [List.mem_singleton] at q; subst q; simp))
  have h2 := (hS (f, n) (by simp)).2
  rw [List.length_append] at h1
  simp only [List.length_cons, List.length_nil] at h1
  unfold wrap64
  omega
/-- Moments, in order, each once. -/
def insUp (t : Int) : List Int → List Int
  | [] => [t]
  | a :: l => if t < a then t :: a :: l else if t = a then a :: l else a :: insUp t l
def keysV : List (Int × Int) → List Int
  | [] => []
  | e :: A => insUp e.1 (keysV A)
theorem mem_insUp (t x : Int) : ∀ l : List Int, x ∈ insUp t l ↔ x = t ∨ x ∈ l
  | [] => by simp [insUp]
  | a :: l => by
    unfold insUp
    split
    · simp
    · split
      · rename_i h; subst h; simp
      · simp only [List.mem_cons, mem_insUp t x l]
        constructor
        · rintro (h | h | h)
          · exact .inr (.inl h)
          · exact .inl h
          · exact .inr (.inr h)
        · rintro (h | h | h)
          · exact .inr (.inl h)
          · exact .inl h
          · exact .inr (.inr h)
theorem up_insUp (t : Int) : ∀ l : List Int, Up l → Up (insUp t l)
  | [], _ => List.pairwise_cons.2 ⟨fun _ h => absurd h (List.not_mem_nil), List.Pairwise.nil⟩
  | a :: l, h => by
    have h1 := (List.pairwise_cons.1 h).1
    unfold insUp
    split
    · refine List.pairwise_cons.2 ⟨fun x hx => ?_, h⟩
      rcases List.mem_cons.1 hx with q | q
      · omega
      · have := h1 x q; omega
    · split
      · exact h
      · refine List.pairwise_cons.2 ⟨fun x hx => ?_, up_insUp t l (List.pairwise_cons.1 h).2⟩
        rcases (mem_insUp t x l).1 hx with q | q
        · omega
        · exact h1 x q
theorem keysV_up : ∀ A : List (Int × Int), Up (keysV A)
  | [] => List.Pairwise.nil
  | e :: A => up_insUp e.1 _ (keysV_up A)
theorem mem_keysV (x : Int) : ∀ A : List (Int × Int), x ∈ keysV A ↔ ∃ e ∈ A, e.1 = x
  | [] => by simp [keysV]
  | e :: A => by
    unfold keysV
    rw [mem_insUp, mem_keysV x A]
    constructor
    · rintro (h | ⟨y, hy, h⟩)
      · exact ⟨e, List.mem_cons_self, h.symm⟩
      · exact ⟨y, List.mem_cons_of_mem _ hy, h⟩
    · rintro ⟨y, hy, h⟩
      rcases List.mem_cons.1 hy with q | q
      · subst q; exact .inl h.symm
      · exact .inr ⟨y, q, h⟩
instance (A : List (Int × Int)) : Decidable (Small40 A) := by unfold Small40; exact inferInstance
/-- Where flow stands: the battery's own block, the map, the variable that holds it; what has been added. -/
def FlowAt (w : World) (gc : Nat) (a0 a1 a2 a3 a4 : Int) (A : List (Int × Int)) (wr : World) : Prop :=
  wr.heap[w.heap.size]? = some (.cells #[.int .i64 a0, .int .i64 a1, .int .i64 a2, .int .i64 a3, .int .i64 a4] 23 (0, 0)) ∧ wr.heap[gc]? = some (.cells #[.map (some (w.heap.size + 1))] 112 (0, 0)) ∧
  (∃ D, wr.ownsMap Try.prog 3 (plainElem Try.prog 3) (w.heap.size + 1) A.length D ∧ Tally D A) ∧ Below w.heap.size w wr ∧ w.heap.size + 2 ≤ gc
theorem FlowAt.below {w wr w2 : World} {gc : Nat} {a0 a1 a2 a3 a4 : Int} {A : List (Int × Int)} (h : FlowAt w gc a0 a1 a2 a3 a4 A wr) (hb : Below wr.heap.size wr w2) : FlowAt w gc a0 a1 a2 a3 a4 A w2 := by
  obtain ⟨h1, h2, ⟨D, h3, h4⟩, h5, h6⟩ := h
  exact ⟨(hb.block _ (blk_lt h1)).trans h1, (hb.block _ (blk_lt h2)).trans h2, ⟨D, h3.kept (grown_of_below hb none) (by simp), h4⟩, below_step h5 hb, h6⟩
theorem FlowAt.added {w wr w2 : World} {gc : Nat} {a0 a1 a2 a3 a4 : Int} {A B : List (Int × Int)} (h : FlowAt w gc a0 a1 a2 a3 a4 A wr) (hg : wr.grownBy w2 (some (w.heap.size + 1))) {D : DataW Unit} {n : Nat} (hn : n = B.length) (ho : w2.ownsMap Try.prog 3 (plainElem Try.prog 3) (w.heap.size + 1) n D) (hT : Tally D B) : FlowAt w gc a0 a1 a2 a3 a4 B w2 := by
  obtain ⟨h1, h2, _, h5, h6⟩ := h
  subst hn
  exact ⟨(hg.block _ (blk_lt h1) (fun e => by injection e with e; omega)).trans h1, (hg.block _ (blk_lt h2) (fun e => by injection e with e; omega)).trans h2, ⟨D, ho, hT⟩, pw_below_grown h5 _ h5.size hg (fun j hj => by cases hj; omega), h6⟩
/-- Keys that have been met. -/
def CollI (D0 : DataW Unit) (left : Lit → Bool) (ks : List Int) : Prop := ks.Nodup ∧ ∀ x : Int, x ∈ ks ↔ (Maps.has D0 (.int .i64 x) = true ∧ left (.int .i64 x) = false)
theorem CollI.start (D0 : DataW Unit) : CollI D0 (Maps.has D0) [] := ⟨List.nodup_nil, fun x => by cases Maps.has D0 (.int .i64 x) <;> simp⟩
theorem CollI.step {D0 : DataW Unit} {left : Lit → Bool} {ks : List Int} (h : CollI D0 left ks) {x : Int} {y : DataW Unit} (hlk : left (.int .i64 x) = true) (hat : ∀ zd, D0.atKey (.int .i64 x) zd = y) : CollI D0 (fun z => left z && !z.sameKey (.int .i64 x)) (ks ++ [x]) := by
  have hhas : Maps.has D0 (.int .i64 x) = true := Maps.has_true_of_atKey hat
  have hnew : x ∉ ks := fun hx => by have := ((h.2 x).1 hx).2; rw [hlk] at this; cases this
  refine ⟨List.nodup_append.2 ⟨h.1, by simp, fun a ha b hb => by simp at hb; subst hb; exact fun e => hnew (e ▸ ha)⟩, fun y => ?_⟩
  by_cases hy : y = x
  · subst hy; simp [hhas, Lit.sameKey]
  · simp [h.2 y, hy, Lit.sameKey]
theorem ownsMap_size {w : World} {P : Program} {k : TypeId} {R : Value → Option (DataW Unit × List MemPlace)} {b n : Nat} {D : DataW Unit} (h : w.ownsMap P k R b n D) : Maps.size D ≤ n := by
  obtain ⟨es, clock, hb, F, hs, rfl⟩ := h
  show ((es.toList.map _).foldr DataW.insert []).length ≤ n
  rw [length_sorted, List.length_map, Array.length_toList]
  exact hs
theorem ownsMap_kept {w w' : World} {P : Program} {k : TypeId} {R : Value → Option (DataW Unit × List MemPlace)} {b n : Nat} {D : DataW Unit} (h : w.ownsMap P k R b n D) (hb : w'.heap[b]? = w.heap[b]?) : w'.ownsMap P k R b n D := by
  obtain ⟨es, clock, hb0, F, hs, hD⟩ := h
  exact ⟨es, clock, hb.trans hb0, F, hs, hD⟩
theorem sorted_keys {A : List (Int × Int)} {ks : List Int} (hn : ks.Nodup) (hm : ∀ x : Int, x ∈ ks ↔ ∃ e ∈ A, e.1 = x) : (ks.mergeSort fun x y => decide (x ≤ y)) = keysV A := by
  have hp := List.mergeSort_perm ks (fun x y => decide (x ≤ y))
  have hs := List.pairwise_mergeSort (le := fun x y : Int => decide (x ≤ y)) (fun a b c h1 h2 => by simp only [decide_eq_true_eq] at *; omega) (fun a b => by simp only [Bool.or_eq_true, decide_eq_true_eq]; omega) ks
  refine up_ext ?_ (keysV_up A) (fun x => by rw [hp.mem_iff, hm, mem_keysV])
  refine (hs.and (hp.nodup_iff.2 hn)).imp fun {a b} h => ?_
  obtain ⟨h1, h2⟩ := h
  simp only [decide_eq_true_eq] at h1
  have : a ≠ b := h2
  omega
theorem iter_ne_cells {P : Program} {k : TypeId} {R : Value → Option (DataW Unit × List MemPlace)} {w : World} {b r n : Nat} {D : DataW Unit} {left : Lit → Bool} {cnt : Nat} (h : w.ranges P k R b r n D left cnt) {g t : Nat} {cs : Array Value} (hb : w.heap[g]? = some (.cells cs t (0, 0))) : g ≠ r := by
  obtain ⟨_, _, _, _, _, _, _, _, _, hit, _⟩ := h
  rintro rfl
  rw [hb] at hit
  cases hit
theorem map_ne_cells {P : Program} {k : TypeId} {R : Value → Option (DataW Unit × List MemPlace)} {w : World} {b n : Nat} {D : DataW Unit} (h : w.ownsMap P k R b n D) {g t : Nat} {cs : Array Value} (hb : w.heap[g]? = some (.cells cs t (0, 0))) : g ≠ b := by
  obtain ⟨_, _, hit, _⟩ := h
  rintro rfl
  rw [hb] at hit
  cases hit
theorem map_ne_row {P : Program} {k : TypeId} {R : Value → Option (DataW Unit × List MemPlace)} {w : World} {b n : Nat} {D : DataW Unit} (h : w.ownsMap P k R b n D) {base e : Nat} {size m : Nat} {v : Value} {xs : List Value} (ho : w.ownsRow base e size v m xs) : some b ≠ v.ownBlock := by
  rcases ho.2 with ⟨rfl, _⟩ | ⟨g, cap, cur, rfl, _, hb, _⟩
  · simp [Value.ownBlock]
  · intro e1
    have : b = g := by simpa [Value.ownBlock] using e1
    exact map_ne_cells h hb this.symm
theorem power_flow.infoI : (Try.prog.info? 3).map (fun i => (i.zero, i.size, i.bytes)) = some (some (.int .i64 0), 1, 8) := by kernel_rfl
theorem rd_dropI {l : List Int} {i : Nat} (h : i < l.length) : l.drop i = rd l (i : Int) :: l.drop (i + 1) := by
  rw [List.drop_eq_getElem_cons h]
  congr 1
  unfold rd
  simp [List.getD_eq_getElem?_getD, List.getElem?_eq_getElem h]
theorem power_flow.infoP : (Try.prog.info? 89).map (fun i => (i.zero, i.size, i.bytes)) = some (some (.agg #[.int .i64 0, .int .i64 0, .int .i64 0]), 3, 24) := by kernel_rfl
theorem power_flow.infoS : (Try.prog.info? 3).map (·.size) = some 1 := by kernel_rfl
end Go.Proofs.Ytplcdpiggpkppaa.Q
