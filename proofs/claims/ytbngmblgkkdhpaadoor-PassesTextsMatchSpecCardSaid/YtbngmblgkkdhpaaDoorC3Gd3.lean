-- Made by wip/tools/claimp.py of this session's texts; Lean checks it.
import Derived.Test.YtbngmblgkkdhpaaDoorC3Q0
import Derived.Test.YtbngmblgkkdhpaaDoorC3Gd1
import Derived.Test.YtbngmblgkkdhpaaDoorC3Gd2
namespace Go.Proofs.YtbngmblgkkdhpaaDoor.Q
open Go.RowKit Go.Proofs.YtbngmblgkkdhpaaDoorW.PrintWords Go.Proofs.YtbngmblgkkdhpaaDoorW.PrintLast Go.Proofs.YtbngmblgkkdhpaaDoorW.PrintMore
attribute [local go_sem] max2_int min2_int max_two min_two max_three min_three max_four min_four
open Go.Proofs.YtbngmblgkkdhpaaDoor.Base
attribute [local go_sem high] str_leq str_gtr str_geq
set_option linter.unusedVariables false
set_option linter.unusedSimpArgs false
theorem eqA62 (d : Nat) (w : World) (x0 y0 : Int) (x1 y1 : Int) :
    (Op.equalIn (d + 2) 62 (.agg #[.int .i64 x0, .int .i64 x1]) (.agg #[.int .i64 y0, .int .i64 y1])).run Tryd.prog w = .ok (x0 == y0 && (x1 == y1)) w := by
  refine eqA_of Tryd.underlying62 (by kernel_rfl) ?_
  refine eqf_cons (by rfl) (by go_simp; rfl) (by go_simp; rfl) (by go_simp) ?_
  exact eqf_last (by rfl) (by go_simp; rfl) (by go_simp; rfl) (by go_simp)
/-- What is no row of passes' blocks and no row of steps' stays: the boxes of type []Pass. -/
def Stays (W W' : World) : Prop := ∀ (g : Nat) (cs : Array Value), W.heap[g]? = some (.cells cs 22 (0, 0)) → W'.heap[g]? = some (.cells cs 22 (0, 0))
theorem Stays.refl (W : World) : Stays W W := fun _ _ h => h
theorem Stays.trans {A B C : World} (h : Stays A B) (h2 : Stays B C) : Stays A C := fun g cs q => h2 g cs (h g cs q)
theorem Stays.of_below {A B : World} (h : Below A.heap.size A B) : Stays A B := fun _ _ q => blk_below q h
theorem Stays.of_grown {A B : World} {v : Value} {e : Nat} (h : A.grownBy B v.ownBlock) (ht : ∀ k, v.ownBlock = some k → ∃ cells, A.heap[k]? = some (.cells cells e (0, 0))) (hne : 22 ≠ e) : Stays A B := fun g cs q =>
  blk_grown q h (fun he => by
    obtain ⟨cells, hc⟩ := ht g he.symm
    exact blk_ne q hc hne rfl)
/-- Passes as they lie in memory while lines are taken. -/
structure TI (w W W1 : World) (v : Value) (l : List S55) : Prop where
  s : Kd.S k55 55 W1 w.heap.size (fun _ => True) v l
  bel : Below w.heap.size w W1
  st : Stays W W1
theorem TI.below {w W W1 W2 : World} {v : Value} {l : List S55} (h : TI w W W1 v l) (hb : Below W1.heap.size W1 W2) : TI w W W2 v l := ⟨Kd.S_below h.s hb, below_step h.bel hb, h.st.trans (Stays.of_below hb)⟩
theorem TI.drewN {w W W1 : World} {v : Value} {l : List S55} (h : TI w W W1 v l) (n : Nat) : TI w W (W1.drewN n) v l := h.below (pw_below_drewN (Below.refl _ _) n)
theorem TI.drew {w W W1 : World} {v : Value} {l : List S55} (h : TI w W W1 v l) : TI w W W1.drew v l := h.below (below_drew (Below.refl _ _))
def TOut (w W : World) (b : Bool) (l' : List S55) (e : Ending) (w' : World) : Prop := ∃ v', e = .returned (.tuple #[v', .bool b]) ∧ TI w W w' v' l'
theorem pass_info : (Tryd.prog.info? 55).map (fun i => (i.zero, i.size, i.bytes)) = some (some (.agg #[.string ⟨#[]⟩, .int .i64 0, .int .i64 0, .slice none 0 0]), 4, 56) := by kernel_rfl
theorem step_info : (Tryd.prog.info? 62).map (fun i => (i.zero, i.size, i.bytes)) = some (some (.agg #[.int .i64 0, .int .i64 0]), 2, 16) := by kernel_rfl
theorem split_len {a b : ByteArray} {t : List ByteArray} (h : strings_Split.f a b = some t) : t.length < 5000000000 := by
  unfold strings_Split.f at h
  obtain ⟨⟨hs, h1⟩, h⟩ := guardT h
  obtain rfl := Option.some.inj h
  have hl := Lib.splitB_all b h1 0 _ a rfl
  have hc := Lib.countB_le b h1 _ a (Nat.le_refl _)
  omega
/-- The last pass of a row. -/
def lastP (l : List S55) : S55 := rd_T55 l ((l.length - 1 : Nat) : Int)
def addStep (l : List S55) (s : S62) : List S55 := l.set (l.length - 1) ⟨(lastP l).f0, (lastP l).f1, (lastP l).f2, (lastP l).f3 ++ [s]⟩
/-- What contact.take does with a line. -/
def TakeOne (K : Nat) (line : ByteArray) (l : List S55) : Option (Bool × List S55) :=
  (strings_Split.f line ⟨#[32]⟩).bind fun t => if t.length < 3 then some (false, l) else
  (kit_Digits.f K (rdOf ByteArray.empty t ((t.length - 2 : Nat) : Int)) 13).bind fun d => (kit_Digits.f K (rdOf ByteArray.empty t ((t.length - 1 : Nat) : Int)) 13).bind fun e =>
  if d.2 = true then if e.2 = true then
    if t.length = 4 then
      if (rdOf ByteArray.empty t 0).toList = [112, 97, 115, 115] then (contact_isWord.f K (rdOf ByteArray.empty t 1)).bind fun ok => if ok = true then (if l.length < 1000000000 then some (true, l ++ [⟨rdOf ByteArray.empty t 1, d.1, e.1, []⟩]) else none) else some (false, l)
      else some (false, l)
    else if t.length = 3 then
      if (rdOf ByteArray.empty t 0).toList = [114, 97, 116, 101] then if l.length = 0 then some (false, l) else (if l.length < 1000000000 ∧ (lastP l).f3.length < 1000000000 then some (true, addStep l ⟨d.1, e.1⟩) else none)
      else some (false, l)
    else some (false, l)
  else some (false, l) else some (false, l)
theorem d8a {p : Prop} (h : p := by have := HL.out; have := HM1.out; have := HM2.out; omega) : p := h
theorem d8b {p : Prop} (h : p := by repeat (first | exact HI.out | apply ReadInv.drewN)) : p := h
theorem d8c {p : Prop} (h : p := by repeat (first | exact HI1.out | apply TI.drewN)) : p := h
theorem d8d {p : Prop} (h : p := by first | rfl | (simp; done) | (simp [*]; done)) : p := h
set_option maxHeartbeats 8000000 in
set_option maxRecDepth 100000 in
theorem TakeOne.few (K : Nat) (line : ByteArray) (l : List S55) (v : Value) (w W : World) (t : List ByteArray) (hV : VarsOK W) (hI : TI w W W v l) (ht : strings_Split.f line (⟨#[32]⟩ : ByteArray) = some t)  (hl : t.length < 3) :
    Calls Tryd.prog 31 #[v, .string line] W (TOut w W false (l)) := by
  have HV := Aside0.mk hV
  have HI := Aside0.mk hI
  have A1 := Aside0.mk ht
  obtain ⟨Al, cl, el⟩ := Kd.S_slice hI.s
  subst el
  have HTL := Aside0.mk (split_len ht)
  clear hV hI ht
  have c1 : decide ((t.length : Int) < 3) = true := decide_eq_true (by omega)
  have c1b : decide (t.length < 3) = true := decide_eq_true (by omega)
  clear hl
  go_enter Tryd.func31, Tryd.ntmps31
  go_wp2_with (first | (go_at_call 35; go_loud (with_reducible refine (strings_Split.calls line (⟨#[32]⟩ : ByteArray) t _ HV.out A1.out).mono ?_); go_loud (rintro e w1 ⟨v, rfl, ho, hb⟩; have HI1 := Aside0.mk (HI.out.below hb); obtain ⟨A9, c9, ev⟩ := Kd.R_slice ho; subst ev; clear ho hb; skip)))
  refine bodyPost_ret (results_list (rs := [.tmp 4, .tmp 5]) rfl (by simp) (.tmp (.tmp .nil))) rfl ?_
  exact ⟨_, d8d, d8c⟩
set_option maxHeartbeats 8000000 in
set_option maxRecDepth 100000 in
theorem TakeOne.one (K : Nat) (line : ByteArray) (l : List S55) (v : Value) (w W : World) (t : List ByteArray) (hV : VarsOK W) (hI : TI w W W v l) (ht : strings_Split.f line (⟨#[32]⟩ : ByteArray) = some t)  (hl : 3 ≤ t.length) (a b : Int) (oa ob : Bool) (hda : kit_Digits.f K (rdOf ByteArray.empty t ((t.length - 2 : Nat) : Int)) 13 = some (a, oa)) (hdb : kit_Digits.f K (rdOf ByteArray.empty t ((t.length - 1 : Nat) : Int)) 13 = some (b, ob)) (hoa : oa = false) :
    Calls Tryd.prog 31 #[v, .string line] W (TOut w W false (l)) := by
  have HV := Aside0.mk hV
  have HI := Aside0.mk hI
  have A1 := Aside0.mk ht
  obtain ⟨Al, cl, el⟩ := Kd.S_slice hI.s
  subst el
  have HTL := Aside0.mk (split_len ht)
  clear hV hI ht
  have HL := Aside0.mk hl
  have c1 : decide ((t.length : Int) < 3) = false := decide_eq_false (by omega)
  have c1b : decide (t.length < 3) = false := decide_eq_false (by omega)
  obtain ⟨m2, hm2⟩ : ∃ m : Nat, m = t.length - 2 := ⟨_, rfl⟩
  obtain ⟨m1, hm1⟩ : ∃ m : Nat, m = t.length - 1 := ⟨_, rfl⟩
  have w2 : IntKind.i64.wrap ((t.length : Int) - 2) = (m2 : Int) := by have := HTL.out; rw [i64_w]; unfold wrap64; omega
  have w1 : IntKind.i64.wrap ((t.length : Int) - 1) = (m1 : Int) := by have := HTL.out; rw [i64_w]; unfold wrap64; omega
  have w2b : wrap64 ((t.length : Int) - 2) = (m2 : Int) := by have := HTL.out; unfold wrap64; omega
  have w1b : wrap64 ((t.length : Int) - 1) = (m1 : Int) := by have := HTL.out; unfold wrap64; omega
  have HM2 := Aside0.mk hm2
  have HM1 := Aside0.mk hm1
  have q2 : (m2 < t.length) = True := eq_true (by omega)
  have q1 : (m1 < t.length) = True := eq_true (by omega)
  have q2i : ((m2 : Int) < (t.length : Int)) = True := eq_true (by omega)
  have q1i : ((m1 : Int) < (t.length : Int)) = True := eq_true (by omega)
  have qi0 : (0 < t.length) = True := eq_true (by omega)
  have qi1 : (1 < t.length) = True := eq_true (by omega)
  have q0 : ((0 : Int) < (t.length : Int)) = True := eq_true (by omega)
  have q1j : ((1 : Int) < (t.length : Int)) = True := eq_true (by omega)
  rw [← hm2] at hda
  rw [← hm1] at hdb
  have A3 := Aside0.mk hda
  have A4 := Aside0.mk hdb
  clear hda hdb
  subst hoa
  clear hm2 hm1 hl
  go_enter Tryd.func31, Tryd.ntmps31
  go_wp2_with (first | (go_at_call 35; go_loud (with_reducible refine (strings_Split.calls line (⟨#[32]⟩ : ByteArray) t _ HV.out A1.out).mono ?_); go_loud (rintro e w1 ⟨v, rfl, ho, hb⟩; have HI1 := Aside0.mk (HI.out.below hb); obtain ⟨A9, c9, ev⟩ := Kd.R_slice ho; subst ev; have HRD := Aside0.mk ((Kd.R_reads' ho).2.2); clear ho hb; obtain ⟨ad0, ea0, hx0⟩ := Kd.at_string HRD.out (m2 : Int) (by omega) d8a; cases ea0; (try simp only [Int.toNat_natCast] at hx0); obtain ⟨ad1, ea1, hx1⟩ := Kd.at_string HRD.out (m1 : Int) (by omega) d8a; cases ea1; (try simp only [Int.toNat_natCast] at hx1); obtain ⟨ad2, ea2, hx2⟩ := Kd.at_string HRD.out 0 (by omega) d8a; cases ea2; (try simp only [show (0 : Int).toNat = 0 from rfl, Nat.reduceMul, Nat.reduceEqDiff, Go.Addr.add, ↓reduceIte] at hx2); (try rw [show ((0 : Int)).toNat = 0 from rfl] at hx2); obtain ⟨ad3, ea3, hx3⟩ := Kd.at_string HRD.out 1 (by omega) d8a; cases ea3; (try simp only [show (1 : Int).toNat = 1 from rfl, Nat.reduceMul, Nat.reduceEqDiff, Go.Addr.add, ↓reduceIte] at hx3); (try rw [show ((1 : Int)).toNat = 1 from rfl] at hx3); skip)) | (go_at_call 66; go_loud (first | (with_reducible refine (kit_Digits.calls K (rdOf ByteArray.empty t (m2 : Int)) 13 _ _ _ A3.out).mono ?_) | (with_reducible refine (kit_Digits.calls K (rdOf ByteArray.empty t (m1 : Int)) 13 _ _ _ A4.out).mono ?_)); rintro e w' ⟨rfl, ⟨nd, rfl⟩⟩))
  refine bodyPost_ret (results_list (rs := [.tmp 4, .tmp 5]) rfl (by simp) (.tmp (.tmp .nil))) rfl ?_
  exact ⟨_, d8d, d8c⟩
set_option maxHeartbeats 8000000 in
set_option maxRecDepth 100000 in
theorem TakeOne.two (K : Nat) (line : ByteArray) (l : List S55) (v : Value) (w W : World) (t : List ByteArray) (hV : VarsOK W) (hI : TI w W W v l) (ht : strings_Split.f line (⟨#[32]⟩ : ByteArray) = some t)  (hl : 3 ≤ t.length) (a b : Int) (oa ob : Bool) (hda : kit_Digits.f K (rdOf ByteArray.empty t ((t.length - 2 : Nat) : Int)) 13 = some (a, oa)) (hdb : kit_Digits.f K (rdOf ByteArray.empty t ((t.length - 1 : Nat) : Int)) 13 = some (b, ob)) (hoa : oa = true) (hob : ob = false) :
    Calls Tryd.prog 31 #[v, .string line] W (TOut w W false (l)) := by
  have HV := Aside0.mk hV
  have HI := Aside0.mk hI
  have A1 := Aside0.mk ht
  obtain ⟨Al, cl, el⟩ := Kd.S_slice hI.s
  subst el
  have HTL := Aside0.mk (split_len ht)
  clear hV hI ht
  have HL := Aside0.mk hl
  have c1 : decide ((t.length : Int) < 3) = false := decide_eq_false (by omega)
  have c1b : decide (t.length < 3) = false := decide_eq_false (by omega)
  obtain ⟨m2, hm2⟩ : ∃ m : Nat, m = t.length - 2 := ⟨_, rfl⟩
  obtain ⟨m1, hm1⟩ : ∃ m : Nat, m = t.length - 1 := ⟨_, rfl⟩
  have w2 : IntKind.i64.wrap ((t.length : Int) - 2) = (m2 : Int) := by have := HTL.out; rw [i64_w]; unfold wrap64; omega
  have w1 : IntKind.i64.wrap ((t.length : Int) - 1) = (m1 : Int) := by have := HTL.out; rw [i64_w]; unfold wrap64; omega
  have w2b : wrap64 ((t.length : Int) - 2) = (m2 : Int) := by have := HTL.out; unfold wrap64; omega
  have w1b : wrap64 ((t.length : Int) - 1) = (m1 : Int) := by have := HTL.out; unfold wrap64; omega
  have HM2 := Aside0.mk hm2
  have HM1 := Aside0.mk hm1
  have q2 : (m2 < t.length) = True := eq_true (by omega)
  have q1 : (m1 < t.length) = True := eq_true (by omega)
  have q2i : ((m2 : Int) < (t.length : Int)) = True := eq_true (by omega)
  have q1i : ((m1 : Int) < (t.length : Int)) = True := eq_true (by omega)
  have qi0 : (0 < t.length) = True := eq_true (by omega)
  have qi1 : (1 < t.length) = True := eq_true (by omega)
  have q0 : ((0 : Int) < (t.length : Int)) = True := eq_true (by omega)
  have q1j : ((1 : Int) < (t.length : Int)) = True := eq_true (by omega)
  rw [← hm2] at hda
  rw [← hm1] at hdb
  have A3 := Aside0.mk hda
  have A4 := Aside0.mk hdb
  clear hda hdb
  subst hoa hob
  clear hm2 hm1 hl
  go_enter Tryd.func31, Tryd.ntmps31
  go_wp2_with (first | (go_at_call 35; go_loud (with_reducible refine (strings_Split.calls line (⟨#[32]⟩ : ByteArray) t _ HV.out A1.out).mono ?_); go_loud (rintro e w1 ⟨v, rfl, ho, hb⟩; have HI1 := Aside0.mk (HI.out.below hb); obtain ⟨A9, c9, ev⟩ := Kd.R_slice ho; subst ev; have HRD := Aside0.mk ((Kd.R_reads' ho).2.2); clear ho hb; obtain ⟨ad0, ea0, hx0⟩ := Kd.at_string HRD.out (m2 : Int) (by omega) d8a; cases ea0; (try simp only [Int.toNat_natCast] at hx0); obtain ⟨ad1, ea1, hx1⟩ := Kd.at_string HRD.out (m1 : Int) (by omega) d8a; cases ea1; (try simp only [Int.toNat_natCast] at hx1); obtain ⟨ad2, ea2, hx2⟩ := Kd.at_string HRD.out 0 (by omega) d8a; cases ea2; (try simp only [show (0 : Int).toNat = 0 from rfl, Nat.reduceMul, Nat.reduceEqDiff, Go.Addr.add, ↓reduceIte] at hx2); (try rw [show ((0 : Int)).toNat = 0 from rfl] at hx2); obtain ⟨ad3, ea3, hx3⟩ := Kd.at_string HRD.out 1 (by omega) d8a; cases ea3; (try simp only [show (1 : Int).toNat = 1 from rfl, Nat.reduceMul, Nat.reduceEqDiff, Go.Addr.add, ↓reduceIte] at hx3); (try rw [show ((1 : Int)).toNat = 1 from rfl] at hx3); skip)) | (go_at_call 66; go_loud (first | (with_reducible refine (kit_Digits.calls K (rdOf ByteArray.empty t (m2 : Int)) 13 _ _ _ A3.out).mono ?_) | (with_reducible refine (kit_Digits.calls K (rdOf ByteArray.empty t (m1 : Int)) 13 _ _ _ A4.out).mono ?_)); rintro e w' ⟨rfl, ⟨nd, rfl⟩⟩))
  refine bodyPost_ret (results_list (rs := [.tmp 4, .tmp 5]) rfl (by simp) (.tmp (.tmp .nil))) rfl ?_
  exact ⟨_, d8d, d8c⟩
set_option maxHeartbeats 8000000 in
set_option maxRecDepth 100000 in
theorem TakeOne.long (K : Nat) (line : ByteArray) (l : List S55) (v : Value) (w W : World) (t : List ByteArray) (hV : VarsOK W) (hI : TI w W W v l) (ht : strings_Split.f line (⟨#[32]⟩ : ByteArray) = some t)  (hl : 3 ≤ t.length) (a b : Int) (oa ob : Bool) (hda : kit_Digits.f K (rdOf ByteArray.empty t ((t.length - 2 : Nat) : Int)) 13 = some (a, oa)) (hdb : kit_Digits.f K (rdOf ByteArray.empty t ((t.length - 1 : Nat) : Int)) 13 = some (b, ob)) (hoa : oa = true) (hob : ob = true) (h4 : t.length ≠ 4) (h3 : t.length ≠ 3) :
    Calls Tryd.prog 31 #[v, .string line] W (TOut w W false (l)) := by
  have HV := Aside0.mk hV
  have HI := Aside0.mk hI
  have A1 := Aside0.mk ht
  obtain ⟨Al, cl, el⟩ := Kd.S_slice hI.s
  subst el
  have HTL := Aside0.mk (split_len ht)
  clear hV hI ht
  have HL := Aside0.mk hl
  have c1 : decide ((t.length : Int) < 3) = false := decide_eq_false (by omega)
  have c1b : decide (t.length < 3) = false := decide_eq_false (by omega)
  obtain ⟨m2, hm2⟩ : ∃ m : Nat, m = t.length - 2 := ⟨_, rfl⟩
  obtain ⟨m1, hm1⟩ : ∃ m : Nat, m = t.length - 1 := ⟨_, rfl⟩
  have w2 : IntKind.i64.wrap ((t.length : Int) - 2) = (m2 : Int) := by have := HTL.out; rw [i64_w]; unfold wrap64; omega
  have w1 : IntKind.i64.wrap ((t.length : Int) - 1) = (m1 : Int) := by have := HTL.out; rw [i64_w]; unfold wrap64; omega
  have w2b : wrap64 ((t.length : Int) - 2) = (m2 : Int) := by have := HTL.out; unfold wrap64; omega
  have w1b : wrap64 ((t.length : Int) - 1) = (m1 : Int) := by have := HTL.out; unfold wrap64; omega
  have HM2 := Aside0.mk hm2
  have HM1 := Aside0.mk hm1
  have q2 : (m2 < t.length) = True := eq_true (by omega)
  have q1 : (m1 < t.length) = True := eq_true (by omega)
  have q2i : ((m2 : Int) < (t.length : Int)) = True := eq_true (by omega)
  have q1i : ((m1 : Int) < (t.length : Int)) = True := eq_true (by omega)
  have qi0 : (0 < t.length) = True := eq_true (by omega)
  have qi1 : (1 < t.length) = True := eq_true (by omega)
  have q0 : ((0 : Int) < (t.length : Int)) = True := eq_true (by omega)
  have q1j : ((1 : Int) < (t.length : Int)) = True := eq_true (by omega)
  rw [← hm2] at hda
  rw [← hm1] at hdb
  have A3 := Aside0.mk hda
  have A4 := Aside0.mk hdb
  clear hda hdb
  subst hoa hob
  have e4 : ((t.length : Int) == 4) = false := beq_eq_false_iff_ne.mpr (by omega)
  have e4b : (t.length == 4) = false := beq_eq_false_iff_ne.mpr (by omega)
  have e3 : ((t.length : Int) == 3) = false := beq_eq_false_iff_ne.mpr (by omega)
  have e3b : (t.length == 3) = false := beq_eq_false_iff_ne.mpr (by omega)
  clear h4 h3
  clear hm2 hm1 hl
  go_enter Tryd.func31, Tryd.ntmps31
  go_wp2_with (first | (go_at_call 35; go_loud (with_reducible refine (strings_Split.calls line (⟨#[32]⟩ : ByteArray) t _ HV.out A1.out).mono ?_); go_loud (rintro e w1 ⟨v, rfl, ho, hb⟩; have HI1 := Aside0.mk (HI.out.below hb); obtain ⟨A9, c9, ev⟩ := Kd.R_slice ho; subst ev; have HRD := Aside0.mk ((Kd.R_reads' ho).2.2); clear ho hb; obtain ⟨ad0, ea0, hx0⟩ := Kd.at_string HRD.out (m2 : Int) (by omega) d8a; cases ea0; (try simp only [Int.toNat_natCast] at hx0); obtain ⟨ad1, ea1, hx1⟩ := Kd.at_string HRD.out (m1 : Int) (by omega) d8a; cases ea1; (try simp only [Int.toNat_natCast] at hx1); obtain ⟨ad2, ea2, hx2⟩ := Kd.at_string HRD.out 0 (by omega) d8a; cases ea2; (try simp only [show (0 : Int).toNat = 0 from rfl, Nat.reduceMul, Nat.reduceEqDiff, Go.Addr.add, ↓reduceIte] at hx2); (try rw [show ((0 : Int)).toNat = 0 from rfl] at hx2); obtain ⟨ad3, ea3, hx3⟩ := Kd.at_string HRD.out 1 (by omega) d8a; cases ea3; (try simp only [show (1 : Int).toNat = 1 from rfl, Nat.reduceMul, Nat.reduceEqDiff, Go.Addr.add, ↓reduceIte] at hx3); (try rw [show ((1 : Int)).toNat = 1 from rfl] at hx3); skip)) | (go_at_call 66; go_loud (first | (with_reducible refine (kit_Digits.calls K (rdOf ByteArray.empty t (m2 : Int)) 13 _ _ _ A3.out).mono ?_) | (with_reducible refine (kit_Digits.calls K (rdOf ByteArray.empty t (m1 : Int)) 13 _ _ _ A4.out).mono ?_)); rintro e w' ⟨rfl, ⟨nd, rfl⟩⟩))
  refine bodyPost_ret (results_list (rs := [.tmp 4, .tmp 5]) rfl (by simp) (.tmp (.tmp .nil))) rfl ?_
  exact ⟨_, d8d, d8c⟩
set_option maxHeartbeats 8000000 in
set_option maxRecDepth 100000 in
theorem TakeOne.nopass (K : Nat) (line : ByteArray) (l : List S55) (v : Value) (w W : World) (t : List ByteArray) (hV : VarsOK W) (hI : TI w W W v l) (ht : strings_Split.f line (⟨#[32]⟩ : ByteArray) = some t)  (hl : 3 ≤ t.length) (a b : Int) (oa ob : Bool) (hda : kit_Digits.f K (rdOf ByteArray.empty t ((t.length - 2 : Nat) : Int)) 13 = some (a, oa)) (hdb : kit_Digits.f K (rdOf ByteArray.empty t ((t.length - 1 : Nat) : Int)) 13 = some (b, ob)) (hoa : oa = true) (hob : ob = true) (h4 : t.length = 4) (hA : (rdOf ByteArray.empty t 0).toList ≠ [112, 97, 115, 115]) :
    Calls Tryd.prog 31 #[v, .string line] W (TOut w W false (l)) := by
  have HV := Aside0.mk hV
  have HI := Aside0.mk hI
  have A1 := Aside0.mk ht
  obtain ⟨Al, cl, el⟩ := Kd.S_slice hI.s
  subst el
  have HTL := Aside0.mk (split_len ht)
  clear hV hI ht
  have HL := Aside0.mk hl
  have c1 : decide ((t.length : Int) < 3) = false := decide_eq_false (by omega)
  have c1b : decide (t.length < 3) = false := decide_eq_false (by omega)
  obtain ⟨m2, hm2⟩ : ∃ m : Nat, m = t.length - 2 := ⟨_, rfl⟩
  obtain ⟨m1, hm1⟩ : ∃ m : Nat, m = t.length - 1 := ⟨_, rfl⟩
  have w2 : IntKind.i64.wrap ((t.length : Int) - 2) = (m2 : Int) := by have := HTL.out; rw [i64_w]; unfold wrap64; omega
  have w1 : IntKind.i64.wrap ((t.length : Int) - 1) = (m1 : Int) := by have := HTL.out; rw [i64_w]; unfold wrap64; omega
  have w2b : wrap64 ((t.length : Int) - 2) = (m2 : Int) := by have := HTL.out; unfold wrap64; omega
  have w1b : wrap64 ((t.length : Int) - 1) = (m1 : Int) := by have := HTL.out; unfold wrap64; omega
  have HM2 := Aside0.mk hm2
  have HM1 := Aside0.mk hm1
  have q2 : (m2 < t.length) = True := eq_true (by omega)
  have q1 : (m1 < t.length) = True := eq_true (by omega)
  have q2i : ((m2 : Int) < (t.length : Int)) = True := eq_true (by omega)
  have q1i : ((m1 : Int) < (t.length : Int)) = True := eq_true (by omega)
  have qi0 : (0 < t.length) = True := eq_true (by omega)
  have qi1 : (1 < t.length) = True := eq_true (by omega)
  have q0 : ((0 : Int) < (t.length : Int)) = True := eq_true (by omega)
  have q1j : ((1 : Int) < (t.length : Int)) = True := eq_true (by omega)
  rw [← hm2] at hda
  rw [← hm1] at hdb
  have A3 := Aside0.mk hda
  have A4 := Aside0.mk hdb
  clear hda hdb
  subst hoa hob
  have e4 : ((t.length : Int) == 4) = true := beq_iff_eq.mpr (by omega)
  have e4b : (t.length == 4) = true := beq_iff_eq.mpr (by omega)
  have e3 : ((t.length : Int) == 3) = false := beq_eq_false_iff_ne.mpr (by omega)
  have e3b : (t.length == 3) = false := beq_eq_false_iff_ne.mpr (by omega)
  have hAb : ((rdOf ByteArray.empty t 0).toList == ([112, 97, 115, 115] : List UInt8)) = false := beq_eq_false_iff_ne.mpr hA
  clear hA
  clear h4
  clear hm2 hm1 hl
  go_enter Tryd.func31, Tryd.ntmps31
  go_wp2_with (first | (go_at_call 35; go_loud (with_reducible refine (strings_Split.calls line (⟨#[32]⟩ : ByteArray) t _ HV.out A1.out).mono ?_); go_loud (rintro e w1 ⟨v, rfl, ho, hb⟩; have HI1 := Aside0.mk (HI.out.below hb); obtain ⟨A9, c9, ev⟩ := Kd.R_slice ho; subst ev; have HRD := Aside0.mk ((Kd.R_reads' ho).2.2); clear ho hb; obtain ⟨ad0, ea0, hx0⟩ := Kd.at_string HRD.out (m2 : Int) (by omega) d8a; cases ea0; (try simp only [Int.toNat_natCast] at hx0); obtain ⟨ad1, ea1, hx1⟩ := Kd.at_string HRD.out (m1 : Int) (by omega) d8a; cases ea1; (try simp only [Int.toNat_natCast] at hx1); obtain ⟨ad2, ea2, hx2⟩ := Kd.at_string HRD.out 0 (by omega) d8a; cases ea2; (try simp only [show (0 : Int).toNat = 0 from rfl, Nat.reduceMul, Nat.reduceEqDiff, Go.Addr.add, ↓reduceIte] at hx2); (try rw [show ((0 : Int)).toNat = 0 from rfl] at hx2); obtain ⟨ad3, ea3, hx3⟩ := Kd.at_string HRD.out 1 (by omega) d8a; cases ea3; (try simp only [show (1 : Int).toNat = 1 from rfl, Nat.reduceMul, Nat.reduceEqDiff, Go.Addr.add, ↓reduceIte] at hx3); (try rw [show ((1 : Int)).toNat = 1 from rfl] at hx3); skip)) | (go_at_call 66; go_loud (first | (with_reducible refine (kit_Digits.calls K (rdOf ByteArray.empty t (m2 : Int)) 13 _ _ _ A3.out).mono ?_) | (with_reducible refine (kit_Digits.calls K (rdOf ByteArray.empty t (m1 : Int)) 13 _ _ _ A4.out).mono ?_)); rintro e w' ⟨rfl, ⟨nd, rfl⟩⟩))
  refine bodyPost_ret (results_list (rs := [.tmp 4, .tmp 5]) rfl (by simp) (.tmp (.tmp .nil))) rfl ?_
  exact ⟨_, d8d, d8c⟩
set_option maxHeartbeats 8000000 in
set_option maxRecDepth 100000 in
theorem TakeOne.noword (K : Nat) (line : ByteArray) (l : List S55) (v : Value) (w W : World) (t : List ByteArray) (hV : VarsOK W) (hI : TI w W W v l) (ht : strings_Split.f line (⟨#[32]⟩ : ByteArray) = some t)  (hl : 3 ≤ t.length) (a b : Int) (oa ob : Bool) (hda : kit_Digits.f K (rdOf ByteArray.empty t ((t.length - 2 : Nat) : Int)) 13 = some (a, oa)) (hdb : kit_Digits.f K (rdOf ByteArray.empty t ((t.length - 1 : Nat) : Int)) 13 = some (b, ob)) (hoa : oa = true) (hob : ob = true) (ok : Bool) (hw : contact_isWord.f K (rdOf ByteArray.empty t 1) = some ok) (h4 : t.length = 4) (hA : (rdOf ByteArray.empty t 0).toList = [112, 97, 115, 115]) (ho : ok = false) :
    Calls Tryd.prog 31 #[v, .string line] W (TOut w W false (l)) := by
  have HV := Aside0.mk hV
  have HI := Aside0.mk hI
  have A1 := Aside0.mk ht
  obtain ⟨Al, cl, el⟩ := Kd.S_slice hI.s
  subst el
  have HTL := Aside0.mk (split_len ht)
  clear hV hI ht
  have HL := Aside0.mk hl
  have c1 : decide ((t.length : Int) < 3) = false := decide_eq_false (by omega)
  have c1b : decide (t.length < 3) = false := decide_eq_false (by omega)
  obtain ⟨m2, hm2⟩ : ∃ m : Nat, m = t.length - 2 := ⟨_, rfl⟩
  obtain ⟨m1, hm1⟩ : ∃ m : Nat, m = t.length - 1 := ⟨_, rfl⟩
  have w2 : IntKind.i64.wrap ((t.length : Int) - 2) = (m2 : Int) := by have := HTL.out; rw [i64_w]; unfold wrap64; omega
  have w1 : IntKind.i64.wrap ((t.length : Int) - 1) = (m1 : Int) := by have := HTL.out; rw [i64_w]; unfold wrap64; omega
  have w2b : wrap64 ((t.length : Int) - 2) = (m2 : Int) := by have := HTL.out; unfold wrap64; omega
  have w1b : wrap64 ((t.length : Int) - 1) = (m1 : Int) := by have := HTL.out; unfold wrap64; omega
  have HM2 := Aside0.mk hm2
  have HM1 := Aside0.mk hm1
  have q2 : (m2 < t.length) = True := eq_true (by omega)
  have q1 : (m1 < t.length) = True := eq_true (by omega)
  have q2i : ((m2 : Int) < (t.length : Int)) = True := eq_true (by omega)
  have q1i : ((m1 : Int) < (t.length : Int)) = True := eq_true (by omega)
  have qi0 : (0 < t.length) = True := eq_true (by omega)
  have qi1 : (1 < t.length) = True := eq_true (by omega)
  have q0 : ((0 : Int) < (t.length : Int)) = True := eq_true (by omega)
  have q1j : ((1 : Int) < (t.length : Int)) = True := eq_true (by omega)
  rw [← hm2] at hda
  rw [← hm1] at hdb
  have A3 := Aside0.mk hda
  have A4 := Aside0.mk hdb
  clear hda hdb
  have A2 := Aside0.mk hw
  clear hw
  subst hoa hob ho
  have e4 : ((t.length : Int) == 4) = true := beq_iff_eq.mpr (by omega)
  have e4b : (t.length == 4) = true := beq_iff_eq.mpr (by omega)
  have e3 : ((t.length : Int) == 3) = false := beq_eq_false_iff_ne.mpr (by omega)
  have e3b : (t.length == 3) = false := beq_eq_false_iff_ne.mpr (by omega)
  have hAb : ((rdOf ByteArray.empty t 0).toList == ([112, 97, 115, 115] : List UInt8)) = true := beq_iff_eq.mpr hA
  clear hA
  clear h4
  clear hm2 hm1 hl
  go_enter Tryd.func31, Tryd.ntmps31
  go_wp2_with (first | (go_at_call 35; go_loud (with_reducible refine (strings_Split.calls line (⟨#[32]⟩ : ByteArray) t _ HV.out A1.out).mono ?_); go_loud (rintro e w1 ⟨v, rfl, ho, hb⟩; have HI1 := Aside0.mk (HI.out.below hb); obtain ⟨A9, c9, ev⟩ := Kd.R_slice ho; subst ev; have HRD := Aside0.mk ((Kd.R_reads' ho).2.2); clear ho hb; obtain ⟨ad0, ea0, hx0⟩ := Kd.at_string HRD.out (m2 : Int) (by omega) d8a; cases ea0; (try simp only [Int.toNat_natCast] at hx0); obtain ⟨ad1, ea1, hx1⟩ := Kd.at_string HRD.out (m1 : Int) (by omega) d8a; cases ea1; (try simp only [Int.toNat_natCast] at hx1); obtain ⟨ad2, ea2, hx2⟩ := Kd.at_string HRD.out 0 (by omega) d8a; cases ea2; (try simp only [show (0 : Int).toNat = 0 from rfl, Nat.reduceMul, Nat.reduceEqDiff, Go.Addr.add, ↓reduceIte] at hx2); (try rw [show ((0 : Int)).toNat = 0 from rfl] at hx2); obtain ⟨ad3, ea3, hx3⟩ := Kd.at_string HRD.out 1 (by omega) d8a; cases ea3; (try simp only [show (1 : Int).toNat = 1 from rfl, Nat.reduceMul, Nat.reduceEqDiff, Go.Addr.add, ↓reduceIte] at hx3); (try rw [show ((1 : Int)).toNat = 1 from rfl] at hx3); skip)) | (go_at_call 66; go_loud (first | (with_reducible refine (kit_Digits.calls K (rdOf ByteArray.empty t (m2 : Int)) 13 _ _ _ A3.out).mono ?_) | (with_reducible refine (kit_Digits.calls K (rdOf ByteArray.empty t (m1 : Int)) 13 _ _ _ A4.out).mono ?_)); rintro e w' ⟨rfl, ⟨nd, rfl⟩⟩) | (go_at_call 67; go_loud (with_reducible refine (contact_isWord.calls K (rdOf ByteArray.empty t 1) _ _ A2.out).mono ?_); rintro e w' ⟨rfl, ⟨nd, rfl⟩⟩))
  refine bodyPost_ret (results_list (rs := [.tmp 4, .tmp 5]) rfl (by simp) (.tmp (.tmp .nil))) rfl ?_
  exact ⟨_, d8d, d8c⟩
set_option maxHeartbeats 8000000 in
set_option maxRecDepth 100000 in
theorem TakeOne.norate (K : Nat) (line : ByteArray) (l : List S55) (v : Value) (w W : World) (t : List ByteArray) (hV : VarsOK W) (hI : TI w W W v l) (ht : strings_Split.f line (⟨#[32]⟩ : ByteArray) = some t)  (hl : 3 ≤ t.length) (a b : Int) (oa ob : Bool) (hda : kit_Digits.f K (rdOf ByteArray.empty t ((t.length - 2 : Nat) : Int)) 13 = some (a, oa)) (hdb : kit_Digits.f K (rdOf ByteArray.empty t ((t.length - 1 : Nat) : Int)) 13 = some (b, ob)) (hoa : oa = true) (hob : ob = true) (h3 : t.length = 3) (hA : (rdOf ByteArray.empty t 0).toList ≠ [114, 97, 116, 101]) :
    Calls Tryd.prog 31 #[v, .string line] W (TOut w W false (l)) := by
  have HV := Aside0.mk hV
  have HI := Aside0.mk hI
  have A1 := Aside0.mk ht
  obtain ⟨Al, cl, el⟩ := Kd.S_slice hI.s
  subst el
  have HTL := Aside0.mk (split_len ht)
  clear hV hI ht
  have HL := Aside0.mk hl
  have c1 : decide ((t.length : Int) < 3) = false := decide_eq_false (by omega)
  have c1b : decide (t.length < 3) = false := decide_eq_false (by omega)
  obtain ⟨m2, hm2⟩ : ∃ m : Nat, m = t.length - 2 := ⟨_, rfl⟩
  obtain ⟨m1, hm1⟩ : ∃ m : Nat, m = t.length - 1 := ⟨_, rfl⟩
  have w2 : IntKind.i64.wrap ((t.length : Int) - 2) = (m2 : Int) := by have := HTL.out; rw [i64_w]; unfold wrap64; omega
  have w1 : IntKind.i64.wrap ((t.length : Int) - 1) = (m1 : Int) := by have := HTL.out; rw [i64_w]; unfold wrap64; omega
  have w2b : wrap64 ((t.length : Int) - 2) = (m2 : Int) := by have := HTL.out; unfold wrap64; omega
  have w1b : wrap64 ((t.length : Int) - 1) = (m1 : Int) := by have := HTL.out; unfold wrap64; omega
  have HM2 := Aside0.mk hm2
  have HM1 := Aside0.mk hm1
  have q2 : (m2 < t.length) = True := eq_true (by omega)
  have q1 : (m1 < t.length) = True := eq_true (by omega)
  have q2i : ((m2 : Int) < (t.length : Int)) = True := eq_true (by omega)
  have q1i : ((m1 : Int) < (t.length : Int)) = True := eq_true (by omega)
  have qi0 : (0 < t.length) = True := eq_true (by omega)
  have qi1 : (1 < t.length) = True := eq_true (by omega)
  have q0 : ((0 : Int) < (t.length : Int)) = True := eq_true (by omega)
  have q1j : ((1 : Int) < (t.length : Int)) = True := eq_true (by omega)
  rw [← hm2] at hda
  rw [← hm1] at hdb
  have A3 := Aside0.mk hda
  have A4 := Aside0.mk hdb
  clear hda hdb
  subst hoa hob
  have e4 : ((t.length : Int) == 4) = false := beq_eq_false_iff_ne.mpr (by omega)
  have e4b : (t.length == 4) = false := beq_eq_false_iff_ne.mpr (by omega)
  have e3 : ((t.length : Int) == 3) = true := beq_iff_eq.mpr (by omega)
  have e3b : (t.length == 3) = true := beq_iff_eq.mpr (by omega)
  have hAb : ((rdOf ByteArray.empty t 0).toList == ([114, 97, 116, 101] : List UInt8)) = false := beq_eq_false_iff_ne.mpr hA
  clear hA
  clear h3
  clear hm2 hm1 hl
  go_enter Tryd.func31, Tryd.ntmps31
  go_wp2_with (first | (go_at_call 35; go_loud (with_reducible refine (strings_Split.calls line (⟨#[32]⟩ : ByteArray) t _ HV.out A1.out).mono ?_); go_loud (rintro e w1 ⟨v, rfl, ho, hb⟩; have HI1 := Aside0.mk (HI.out.below hb); obtain ⟨A9, c9, ev⟩ := Kd.R_slice ho; subst ev; have HRD := Aside0.mk ((Kd.R_reads' ho).2.2); clear ho hb; obtain ⟨ad0, ea0, hx0⟩ := Kd.at_string HRD.out (m2 : Int) (by omega) d8a; cases ea0; (try simp only [Int.toNat_natCast] at hx0); obtain ⟨ad1, ea1, hx1⟩ := Kd.at_string HRD.out (m1 : Int) (by omega) d8a; cases ea1; (try simp only [Int.toNat_natCast] at hx1); obtain ⟨ad2, ea2, hx2⟩ := Kd.at_string HRD.out 0 (by omega) d8a; cases ea2; (try simp only [show (0 : Int).toNat = 0 from rfl, Nat.reduceMul, Nat.reduceEqDiff, Go.Addr.add, ↓reduceIte] at hx2); (try rw [show ((0 : Int)).toNat = 0 from rfl] at hx2); obtain ⟨ad3, ea3, hx3⟩ := Kd.at_string HRD.out 1 (by omega) d8a; cases ea3; (try simp only [show (1 : Int).toNat = 1 from rfl, Nat.reduceMul, Nat.reduceEqDiff, Go.Addr.add, ↓reduceIte] at hx3); (try rw [show ((1 : Int)).toNat = 1 from rfl] at hx3); skip)) | (go_at_call 66; go_loud (first | (with_reducible refine (kit_Digits.calls K (rdOf ByteArray.empty t (m2 : Int)) 13 _ _ _ A3.out).mono ?_) | (with_reducible refine (kit_Digits.calls K (rdOf ByteArray.empty t (m1 : Int)) 13 _ _ _ A4.out).mono ?_)); rintro e w' ⟨rfl, ⟨nd, rfl⟩⟩))
  refine bodyPost_ret (results_list (rs := [.tmp 4, .tmp 5]) rfl (by simp) (.tmp (.tmp .nil))) rfl ?_
  exact ⟨_, d8d, d8c⟩
set_option maxHeartbeats 8000000 in
set_option maxRecDepth 100000 in
theorem TakeOne.nolast (K : Nat) (line : ByteArray) (l : List S55) (v : Value) (w W : World) (t : List ByteArray) (hV : VarsOK W) (hI : TI w W W v l) (ht : strings_Split.f line (⟨#[32]⟩ : ByteArray) = some t)  (hl : 3 ≤ t.length) (a b : Int) (oa ob : Bool) (hda : kit_Digits.f K (rdOf ByteArray.empty t ((t.length - 2 : Nat) : Int)) 13 = some (a, oa)) (hdb : kit_Digits.f K (rdOf ByteArray.empty t ((t.length - 1 : Nat) : Int)) 13 = some (b, ob)) (hoa : oa = true) (hob : ob = true) (h3 : t.length = 3) (hA : (rdOf ByteArray.empty t 0).toList = [114, 97, 116, 101]) (hz : l.length = 0) :
    Calls Tryd.prog 31 #[v, .string line] W (TOut w W false (l)) := by
  have HV := Aside0.mk hV
  have HI := Aside0.mk hI
  have A1 := Aside0.mk ht
  obtain ⟨Al, cl, el⟩ := Kd.S_slice hI.s
  subst el
  have HTL := Aside0.mk (split_len ht)
  clear hV hI ht
  have HL := Aside0.mk hl
  have c1 : decide ((t.length : Int) < 3) = false := decide_eq_false (by omega)
  have c1b : decide (t.length < 3) = false := decide_eq_false (by omega)
  obtain ⟨m2, hm2⟩ : ∃ m : Nat, m = t.length - 2 := ⟨_, rfl⟩
  obtain ⟨m1, hm1⟩ : ∃ m : Nat, m = t.length - 1 := ⟨_, rfl⟩
  have w2 : IntKind.i64.wrap ((t.length : Int) - 2) = (m2 : Int) := by have := HTL.out; rw [i64_w]; unfold wrap64; omega
  have w1 : IntKind.i64.wrap ((t.length : Int) - 1) = (m1 : Int) := by have := HTL.out; rw [i64_w]; unfold wrap64; omega
  have w2b : wrap64 ((t.length : Int) - 2) = (m2 : Int) := by have := HTL.out; unfold wrap64; omega
  have w1b : wrap64 ((t.length : Int) - 1) = (m1 : Int) := by have := HTL.out; unfold wrap64; omega
  have HM2 := Aside0.mk hm2
  have HM1 := Aside0.mk hm1
  have q2 : (m2 < t.length) = True := eq_true (by omega)
  have q1 : (m1 < t.length) = True := eq_true (by omega)
  have q2i : ((m2 : Int) < (t.length : Int)) = True := eq_true (by omega)
  have q1i : ((m1 : Int) < (t.length : Int)) = True := eq_true (by omega)
  have qi0 : (0 < t.length) = True := eq_true (by omega)
  have qi1 : (1 < t.length) = True := eq_true (by omega)
  have q0 : ((0 : Int) < (t.length : Int)) = True := eq_true (by omega)
  have q1j : ((1 : Int) < (t.length : Int)) = True := eq_true (by omega)
  rw [← hm2] at hda
  rw [← hm1] at hdb
  have A3 := Aside0.mk hda
  have A4 := Aside0.mk hdb
  clear hda hdb
  subst hoa hob
  have e4 : ((t.length : Int) == 4) = false := beq_eq_false_iff_ne.mpr (by omega)
  have e4b : (t.length == 4) = false := beq_eq_false_iff_ne.mpr (by omega)
  have e3 : ((t.length : Int) == 3) = true := beq_iff_eq.mpr (by omega)
  have e3b : (t.length == 3) = true := beq_iff_eq.mpr (by omega)
  have hAb : ((rdOf ByteArray.empty t 0).toList == ([114, 97, 116, 101] : List UInt8)) = true := beq_iff_eq.mpr hA
  clear hA
  have z1 : decide ((0 : Int) < (l.length : Int)) = false := decide_eq_false (by omega)
  have z2 : decide (0 < l.length) = false := decide_eq_false (by omega)
  clear h3 hz
  clear hm2 hm1 hl
  go_enter Tryd.func31, Tryd.ntmps31
  go_wp2_with (first | (go_at_call 35; go_loud (with_reducible refine (strings_Split.calls line (⟨#[32]⟩ : ByteArray) t _ HV.out A1.out).mono ?_); go_loud (rintro e w1 ⟨v, rfl, ho, hb⟩; have HI1 := Aside0.mk (HI.out.below hb); obtain ⟨A9, c9, ev⟩ := Kd.R_slice ho; subst ev; have HRD := Aside0.mk ((Kd.R_reads' ho).2.2); clear ho hb; obtain ⟨ad0, ea0, hx0⟩ := Kd.at_string HRD.out (m2 : Int) (by omega) d8a; cases ea0; (try simp only [Int.toNat_natCast] at hx0); obtain ⟨ad1, ea1, hx1⟩ := Kd.at_string HRD.out (m1 : Int) (by omega) d8a; cases ea1; (try simp only [Int.toNat_natCast] at hx1); obtain ⟨ad2, ea2, hx2⟩ := Kd.at_string HRD.out 0 (by omega) d8a; cases ea2; (try simp only [show (0 : Int).toNat = 0 from rfl, Nat.reduceMul, Nat.reduceEqDiff, Go.Addr.add, ↓reduceIte] at hx2); (try rw [show ((0 : Int)).toNat = 0 from rfl] at hx2); obtain ⟨ad3, ea3, hx3⟩ := Kd.at_string HRD.out 1 (by omega) d8a; cases ea3; (try simp only [show (1 : Int).toNat = 1 from rfl, Nat.reduceMul, Nat.reduceEqDiff, Go.Addr.add, ↓reduceIte] at hx3); (try rw [show ((1 : Int)).toNat = 1 from rfl] at hx3); skip)) | (go_at_call 66; go_loud (first | (with_reducible refine (kit_Digits.calls K (rdOf ByteArray.empty t (m2 : Int)) 13 _ _ _ A3.out).mono ?_) | (with_reducible refine (kit_Digits.calls K (rdOf ByteArray.empty t (m1 : Int)) 13 _ _ _ A4.out).mono ?_)); rintro e w' ⟨rfl, ⟨nd, rfl⟩⟩))
  refine bodyPost_ret (results_list (rs := [.tmp 4, .tmp 5]) rfl (by simp) (.tmp (.tmp .nil))) rfl ?_
  exact ⟨_, d8d, d8c⟩
set_option maxHeartbeats 8000000 in
set_option maxRecDepth 100000 in
theorem TakeOne.pass (K : Nat) (line : ByteArray) (l : List S55) (v : Value) (w W : World) (t : List ByteArray) (hV : VarsOK W) (hI : TI w W W v l) (ht : strings_Split.f line (⟨#[32]⟩ : ByteArray) = some t)  (hl : 3 ≤ t.length) (a b : Int) (oa ob : Bool) (hda : kit_Digits.f K (rdOf ByteArray.empty t ((t.length - 2 : Nat) : Int)) 13 = some (a, oa)) (hdb : kit_Digits.f K (rdOf ByteArray.empty t ((t.length - 1 : Nat) : Int)) 13 = some (b, ob)) (hoa : oa = true) (hob : ob = true) (ok : Bool) (hw : contact_isWord.f K (rdOf ByteArray.empty t 1) = some ok) (h4 : t.length = 4) (hA : (rdOf ByteArray.empty t 0).toList = [112, 97, 115, 115]) (ho : ok = true) (hlt : l.length < 1000000000) :
    Calls Tryd.prog 31 #[v, .string line] W (TOut w W true (l ++ [(⟨rdOf ByteArray.empty t 1, a, b, []⟩ : S55)])) := by
  have HV := Aside0.mk hV
  have HI := Aside0.mk hI
  have A1 := Aside0.mk ht
  obtain ⟨Al, cl, el⟩ := Kd.S_slice hI.s
  subst el
  have HTL := Aside0.mk (split_len ht)
  clear hV hI ht
  have HL := Aside0.mk hl
  have c1 : decide ((t.length : Int) < 3) = false := decide_eq_false (by omega)
  have c1b : decide (t.length < 3) = false := decide_eq_false (by omega)
  obtain ⟨m2, hm2⟩ : ∃ m : Nat, m = t.length - 2 := ⟨_, rfl⟩
  obtain ⟨m1, hm1⟩ : ∃ m : Nat, m = t.length - 1 := ⟨_, rfl⟩
  have w2 : IntKind.i64.wrap ((t.length : Int) - 2) = (m2 : Int) := by have := HTL.out; rw [i64_w]; unfold wrap64; omega
  have w1 : IntKind.i64.wrap ((t.length : Int) - 1) = (m1 : Int) := by have := HTL.out; rw [i64_w]; unfold wrap64; omega
  have w2b : wrap64 ((t.length : Int) - 2) = (m2 : Int) := by have := HTL.out; unfold wrap64; omega
  have w1b : wrap64 ((t.length : Int) - 1) = (m1 : Int) := by have := HTL.out; unfold wrap64; omega
  have HM2 := Aside0.mk hm2
  have HM1 := Aside0.mk hm1
  have q2 : (m2 < t.length) = True := eq_true (by omega)
  have q1 : (m1 < t.length) = True := eq_true (by omega)
  have q2i : ((m2 : Int) < (t.length : Int)) = True := eq_true (by omega)
  have q1i : ((m1 : Int) < (t.length : Int)) = True := eq_true (by omega)
  have qi0 : (0 < t.length) = True := eq_true (by omega)
  have qi1 : (1 < t.length) = True := eq_true (by omega)
  have q0 : ((0 : Int) < (t.length : Int)) = True := eq_true (by omega)
  have q1j : ((1 : Int) < (t.length : Int)) = True := eq_true (by omega)
  rw [← hm2] at hda
  rw [← hm1] at hdb
  have A3 := Aside0.mk hda
  have A4 := Aside0.mk hdb
  clear hda hdb
  have A2 := Aside0.mk hw
  clear hw
  subst hoa hob ho
  have e4 : ((t.length : Int) == 4) = true := beq_iff_eq.mpr (by omega)
  have e4b : (t.length == 4) = true := beq_iff_eq.mpr (by omega)
  have e3 : ((t.length : Int) == 3) = false := beq_eq_false_iff_ne.mpr (by omega)
  have e3b : (t.length == 3) = false := beq_eq_false_iff_ne.mpr (by omega)
  have hAb : ((rdOf ByteArray.empty t 0).toList == ([112, 97, 115, 115] : List UInt8)) = true := beq_iff_eq.mpr hA
  clear hA
  have HLT := Aside0.mk hlt
  clear h4 hlt
  clear hm2 hm1 hl
  go_enter Tryd.func31, Tryd.ntmps31
  go_wp2_with (first | (go_at_call 35; go_loud (with_reducible refine (strings_Split.calls line (⟨#[32]⟩ : ByteArray) t _ HV.out A1.out).mono ?_); go_loud (rintro e w1 ⟨v, rfl, ho, hb⟩; have HI1 := Aside0.mk (HI.out.below hb); obtain ⟨A9, c9, ev⟩ := Kd.R_slice ho; subst ev; have HRD := Aside0.mk ((Kd.R_reads' ho).2.2); clear ho hb; obtain ⟨ad0, ea0, hx0⟩ := Kd.at_string HRD.out (m2 : Int) (by omega) d8a; cases ea0; (try simp only [Int.toNat_natCast] at hx0); obtain ⟨ad1, ea1, hx1⟩ := Kd.at_string HRD.out (m1 : Int) (by omega) d8a; cases ea1; (try simp only [Int.toNat_natCast] at hx1); obtain ⟨ad2, ea2, hx2⟩ := Kd.at_string HRD.out 0 (by omega) d8a; cases ea2; (try simp only [show (0 : Int).toNat = 0 from rfl, Nat.reduceMul, Nat.reduceEqDiff, Go.Addr.add, ↓reduceIte] at hx2); (try rw [show ((0 : Int)).toNat = 0 from rfl] at hx2); obtain ⟨ad3, ea3, hx3⟩ := Kd.at_string HRD.out 1 (by omega) d8a; cases ea3; (try simp only [show (1 : Int).toNat = 1 from rfl, Nat.reduceMul, Nat.reduceEqDiff, Go.Addr.add, ↓reduceIte] at hx3); (try rw [show ((1 : Int)).toNat = 1 from rfl] at hx3); skip)) | (go_at_call 66; go_loud (first | (with_reducible refine (kit_Digits.calls K (rdOf ByteArray.empty t (m2 : Int)) 13 _ _ _ A3.out).mono ?_) | (with_reducible refine (kit_Digits.calls K (rdOf ByteArray.empty t (m1 : Int)) 13 _ _ _ A4.out).mono ?_)); rintro e w' ⟨rfl, ⟨nd, rfl⟩⟩) | (go_at_call 67; go_loud (with_reducible refine (contact_isWord.calls K (rdOf ByteArray.empty t 1) _ _ A2.out).mono ?_); rintro e w' ⟨rfl, ⟨nd, rfl⟩⟩) | ((with_reducible refine gate_builtin (b := .append) (xs := #[.tmp 62, .tmp 69]) rfl ?_); at_builtin; refine Kd.S_append k55 (w0 := w) w.heap.size rfl (.tmp 62) (.tmp 69) 22 55 (.agg #[.string ⟨#[]⟩, .int .i64 0, .int .i64 0, .slice none 0 0]) 56 rfl Tryd.underlying22 pass_info rfl (by decide) (by omega) (.slice Al l.length cl) l (⟨rdOf ByteArray.empty t 1, a, b, []⟩ : S55) [.string (rdOf ByteArray.empty t 1), .int .i64 a, .int .i64 b, .slice none 0 0] (fun _ => True) (fun _ => False) rfl rfl (k55_mkM _ _ _ (⟨rdOf ByteArray.empty t 1, a, b, []⟩ : S55) (Kd.R_nil _ _ _ _ _)) (fun _ h => h.elim) (fun _ _ => trivial) ?aO ?aB ?aS (by have := HLT.out; omega) ?_; (case aO => exact Kd.S_mono (by repeat (first | exact HI1.out | apply TI.drewN | apply TI.drew) : TI w W _ (.slice Al l.length cl) l).s (fun _ _ => ⟨trivial, id⟩)); (case aB => exact (by repeat (first | exact HI1.out | apply TI.drewN | apply TI.drew) : TI w W _ (.slice Al l.length cl) l).bel); (case aS => exact below_size (by repeat (first | exact HI1.out | apply TI.drewN | apply TI.drew) : TI w W _ (.slice Al l.length cl) l).bel); intro v3 W3 ho3 hb3 hg3 _; have HF := Aside0.mk (TI.mk ho3 hb3 ((by repeat (first | exact HI1.out | apply TI.drewN | apply TI.drew) : TI w W _ (.slice Al l.length cl) l).st.trans (Stays.of_grown hg3 (Kd.S_typed (by repeat (first | exact HI1.out | apply TI.drewN | apply TI.drew) : TI w W _ (.slice Al l.length cl) l).s) (by decide)))); clear ho3 hb3 hg3))
  refine bodyPost_ret (results_list (rs := [.tmp 4, .tmp 5]) rfl (by simp) (.tmp (.tmp .nil))) rfl ?_
  exact ⟨_, rfl, by repeat (first | exact HF.out | apply TI.drewN | apply TI.drew)⟩
/-- The last pass lent: its steps' row beside the passes' row with a hole. -/
structure TE (w W W1 : World) (g cl : Nat) (l : List S55) (j : Nat) (oki : Nat → Prop) (c : List Value) (v : Value) (xs : List S62) : Prop where
  h : Kd.H k55 55 W1 w.heap.size (fun _ => True) (.slice (some ⟨g, 0, none⟩) l.length cl) l (j : Int) oki c
  r : k62.R 62 W1 w.heap.size oki v xs
  bel : Below w.heap.size w W1
  st : Stays W W1
theorem TE.below {w W W1 W2 : World} {g cl : Nat} {l : List S55} {j : Nat} {oki : Nat → Prop} {c : List Value} {v : Value} {xs : List S62} (h : TE w W W1 g cl l j oki c v xs) (hb : Below W1.heap.size W1 W2) : TE w W W2 g cl l j oki c v xs := ⟨Kd.H_below h.h hb, Kd.R_below h.r hb, below_step h.bel hb, h.st.trans (Stays.of_below hb)⟩
theorem TE.drewN {w W W1 : World} {g cl : Nat} {l : List S55} {j : Nat} {oki : Nat → Prop} {c : List Value} {v : Value} {xs : List S62} (h : TE w W W1 g cl l j oki c v xs) (n : Nat) : TE w W (W1.drewN n) g cl l j oki c v xs := h.below (pw_below_drewN (Below.refl _ _) n)
theorem TE.drew {w W W1 : World} {g cl : Nat} {l : List S55} {j : Nat} {oki : Nat → Prop} {c : List Value} {v : Value} {xs : List S62} (h : TE w W W1 g cl l j oki c v xs) : TE w W W1.drew g cl l j oki c v xs := h.below (below_drew (Below.refl _ _))
theorem TE.step {w W W1 W2 : World} {g cl : Nat} {l : List S55} {j : Nat} {oki : Nat → Prop} {c : List Value} {v v2 : Value} {xs ys : List S62} (h : TE w W W1 g cl l j oki c v xs) (hr : k62.R 62 W2 w.heap.size (fun k => oki k ∨ True ∧ W1.heap.size ≤ k) v2 ys) (hb : Below w.heap.size w W2) (hg : W1.grownBy W2 v.ownBlock) : TE w W W2 g cl l j (fun k => oki k ∨ True ∧ W1.heap.size ≤ k) c v2 ys :=
  ⟨Kd.H_grown (Kd.H_widen h.h) hg (fun k hk => .inl (h.r.1 k hk)), hr, hb, h.st.trans (Stays.of_grown hg (Kd.R_typed h.r) (by decide))⟩
theorem TE.typed {w W W1 : World} {g cl : Nat} {l : List S55} {j : Nat} {oki : Nat → Prop} {c : List Value} {v : Value} {xs : List S62} (h : TE w W W1 g cl l j oki c v xs) : ∀ k, (Value.slice (some ⟨g, 0, none⟩) l.length cl).ownBlock = some k → ∃ cells, W1.heap[k]? = some (.cells cells 55 (0, 0)) := by
  obtain ⟨_, f, hR⟩ := h.h
  exact Kd.R_typed hR
theorem TE.append {ops : Array Oper} {rest : List Oper} {o : Oper} {a : Act} {Q : Exit → Act → World → Prop} {w W W1 : World} {g cl : Nat} {l : List S55} {j : Nat} {oki : Nat → Prop} {c : List Value} {v : Value} {xs : List S62} (p : S62) (s x : Operand) (hgd : o.guard = none) (ho : o.op = .call { callee := .builtin .append, args := #[s, x], argTypes := #[53, 53] }) (hs : a.eval s = v) (hx : a.eval x = .slice (some ⟨W1.heap.size, 0, none⟩) 1 1) (hE : TE w W W1 g cl l j oki c v xs) (hl : xs.length < 1000000000)
    (h : ∀ oki2 v1 w1, TE w W w1 g cl l j oki2 c v1 (xs ++ [p]) → wpList Tryd.prog ops Q rest (a.put o.dst v1) w1) : wpList Tryd.prog ops Q (o :: rest) a (W1.alloc (.cells [.int .i64 p.f0, .int .i64 p.f1].toArray 62)) := by
  refine Kd.R_append k62 (w0 := w) w.heap.size hgd s x 53 62 (.agg #[.int .i64 0, .int .i64 0]) 16 ho Tryd.underlying53 step_info rfl (by decide) (by omega) v xs p [.int .i64 p.f0, .int .i64 p.f1] (fun k => oki k ∨ True ∧ W1.heap.size ≤ k) (fun _ => False) hs hx (k62_mkM _ _ _ p) (fun _ h => h.elim) (fun _ hk => .inr ⟨trivial, hk⟩) (Kd.R_mono hE.r (fun _ hk => .inl hk)) hE.bel (below_size hE.bel) (by omega) ?_
  intro v1 w1 ho1 hb1 hg1 _
  exact h _ v1 w1 (TE.step hE ho1 hb1 hg1)
set_option maxHeartbeats 8000000 in
set_option maxRecDepth 100000 in
theorem TakeOne.rate (K : Nat) (line : ByteArray) (l : List S55) (v : Value) (w W : World) (t : List ByteArray) (hV : VarsOK W) (hI : TI w W W v l) (ht : strings_Split.f line (⟨#[32]⟩ : ByteArray) = some t)  (hl : 3 ≤ t.length) (a b : Int) (oa ob : Bool) (hda : kit_Digits.f K (rdOf ByteArray.empty t ((t.length - 2 : Nat) : Int)) 13 = some (a, oa)) (hdb : kit_Digits.f K (rdOf ByteArray.empty t ((t.length - 1 : Nat) : Int)) 13 = some (b, ob)) (hoa : oa = true) (hob : ob = true) (h3 : t.length = 3) (hA : (rdOf ByteArray.empty t 0).toList = [114, 97, 116, 101]) (hz : l.length ≠ 0) (hlt : l.length < 1000000000 ∧ (lastP l).f3.length < 1000000000) :
    Calls Tryd.prog 31 #[v, .string line] W (TOut w W true (addStep l ⟨a, b⟩)) := by
  have HV := Aside0.mk hV
  have HI := Aside0.mk hI
  have A1 := Aside0.mk ht
  obtain ⟨Al, cl, el⟩ := Kd.S_slice hI.s
  subst el
  have HTL := Aside0.mk (split_len ht)
  clear hV hI ht
  have HL := Aside0.mk hl
  have c1 : decide ((t.length : Int) < 3) = false := decide_eq_false (by omega)
  have c1b : decide (t.length < 3) = false := decide_eq_false (by omega)
  obtain ⟨m2, hm2⟩ : ∃ m : Nat, m = t.length - 2 := ⟨_, rfl⟩
  obtain ⟨m1, hm1⟩ : ∃ m : Nat, m = t.length - 1 := ⟨_, rfl⟩
  have w2 : IntKind.i64.wrap ((t.length : Int) - 2) = (m2 : Int) := by have := HTL.out; rw [i64_w]; unfold wrap64; omega
  have w1 : IntKind.i64.wrap ((t.length : Int) - 1) = (m1 : Int) := by have := HTL.out; rw [i64_w]; unfold wrap64; omega
  have w2b : wrap64 ((t.length : Int) - 2) = (m2 : Int) := by have := HTL.out; unfold wrap64; omega
  have w1b : wrap64 ((t.length : Int) - 1) = (m1 : Int) := by have := HTL.out; unfold wrap64; omega
  have HM2 := Aside0.mk hm2
  have HM1 := Aside0.mk hm1
  have q2 : (m2 < t.length) = True := eq_true (by omega)
  have q1 : (m1 < t.length) = True := eq_true (by omega)
  have q2i : ((m2 : Int) < (t.length : Int)) = True := eq_true (by omega)
  have q1i : ((m1 : Int) < (t.length : Int)) = True := eq_true (by omega)
  have qi0 : (0 < t.length) = True := eq_true (by omega)
  have qi1 : (1 < t.length) = True := eq_true (by omega)
  have q0 : ((0 : Int) < (t.length : Int)) = True := eq_true (by omega)
  have q1j : ((1 : Int) < (t.length : Int)) = True := eq_true (by omega)
  rw [← hm2] at hda
  rw [← hm1] at hdb
  have A3 := Aside0.mk hda
  have A4 := Aside0.mk hdb
  clear hda hdb
  subst hoa hob
  have e4 : ((t.length : Int) == 4) = false := beq_eq_false_iff_ne.mpr (by omega)
  have e4b : (t.length == 4) = false := beq_eq_false_iff_ne.mpr (by omega)
  have e3 : ((t.length : Int) == 3) = true := beq_iff_eq.mpr (by omega)
  have e3b : (t.length == 3) = true := beq_iff_eq.mpr (by omega)
  have hAb : ((rdOf ByteArray.empty t 0).toList == ([114, 97, 116, 101] : List UInt8)) = true := beq_iff_eq.mpr hA
  clear hA
  obtain ⟨j, hj⟩ : ∃ j : Nat, j = l.length - 1 := ⟨_, rfl⟩
  have z1 : decide ((0 : Int) < (l.length : Int)) = true := decide_eq_true (by omega)
  have z2 : decide (0 < l.length) = true := decide_eq_true (by omega)
  have z3 : IntKind.i64.wrap ((l.length : Int) - 1) = (j : Int) := by rw [i64_w]; unfold wrap64; omega
  have z4 : wrap64 ((l.length : Int) - 1) = (j : Int) := by unfold wrap64; omega
  have z5 : (j < l.length) = True := eq_true (by omega)
  have z6 : ((j : Int) < (l.length : Int)) = True := eq_true (by omega)
  obtain ⟨g0, cap0, eg, _, _, _⟩ := Kd.S_form HI.out.s (by omega)
  injection eg with eg1 eg2 eg3
  subst eg1 eg3
  obtain ⟨ad, had⟩ : ∃ ad : Addr, ad = ⟨g0, 0, none⟩ := ⟨_, rfl⟩
  rw [← had] at HI ⊢
  have HAD := Aside0.mk had
  have HJ := Aside0.mk hj
  have HLT := Aside0.mk hlt
  clear h3 hz had hj hlt eg2
  clear hm2 hm1 hl
  go_enter Tryd.func31, Tryd.ntmps31
  go_wp2_with (first | (go_at_call 35; go_loud (with_reducible refine (strings_Split.calls line (⟨#[32]⟩ : ByteArray) t _ HV.out A1.out).mono ?_); go_loud (rintro e w1 ⟨v, rfl, ho, hb⟩; have HI1 := Aside0.mk (HI.out.below hb); obtain ⟨A9, c9, ev⟩ := Kd.R_slice ho; subst ev; have HRD := Aside0.mk ((Kd.R_reads' ho).2.2); clear ho hb; obtain ⟨ad0, ea0, hx0⟩ := Kd.at_string HRD.out (m2 : Int) (by omega) d8a; cases ea0; (try simp only [Int.toNat_natCast] at hx0); obtain ⟨ad1, ea1, hx1⟩ := Kd.at_string HRD.out (m1 : Int) (by omega) d8a; cases ea1; (try simp only [Int.toNat_natCast] at hx1); obtain ⟨ad2, ea2, hx2⟩ := Kd.at_string HRD.out 0 (by omega) d8a; cases ea2; (try simp only [show (0 : Int).toNat = 0 from rfl, Nat.reduceMul, Nat.reduceEqDiff, Go.Addr.add, ↓reduceIte] at hx2); (try rw [show ((0 : Int)).toNat = 0 from rfl] at hx2); obtain ⟨ad3, ea3, hx3⟩ := Kd.at_string HRD.out 1 (by omega) d8a; cases ea3; (try simp only [show (1 : Int).toNat = 1 from rfl, Nat.reduceMul, Nat.reduceEqDiff, Go.Addr.add, ↓reduceIte] at hx3); (try rw [show ((1 : Int)).toNat = 1 from rfl] at hx3); have hS := HI1.out.s; rw [HAD.out] at hS; obtain ⟨oki, cc, hcl, hM, hcc, hfr, hoki, hH⟩ := Kd.S_elem hS z55 (j : Int) (by omega) (by have := HJ.out; have := of_decide_eq_true z2; omega); obtain ⟨v3, ecc, hR3⟩ := k55_openM hM; obtain ⟨A7, c3, ev3⟩ := Kd.R_slice hR3; subst ev3; have hlast : l.getD (j : Int).toNat z55 = lastP l := (by rw [HJ.out]; rfl); rw [hlast] at hR3 ecc; have hx9 : w1.cell? ⟨(ad.add (j * 4)).block, (ad.add (j * 4)).off + 3, none⟩ = some (.slice A7 (lastP l).f3.length c3) := (by rw [HAD.out, add_at, Nat.zero_add]; exact hcc 3 _ (by rw [ecc]; rfl)); have HE : Aside0 (TE w W w1 g0 cl l j oki cc (.slice A7 (lastP l).f3.length c3) (lastP l).f3) := ⟨⟨hH, hR3, HI1.out.bel, HI1.out.st⟩⟩; have HCC := Aside0.mk ecc; clear hS hM hcc hfr hoki hH ecc hR3 hlast hcl; skip)) | (go_at_call 66; go_loud (first | (with_reducible refine (kit_Digits.calls K (rdOf ByteArray.empty t (m2 : Int)) 13 _ _ _ A3.out).mono ?_) | (with_reducible refine (kit_Digits.calls K (rdOf ByteArray.empty t (m1 : Int)) 13 _ _ _ A4.out).mono ?_)); rintro e w' ⟨rfl, ⟨nd, rfl⟩⟩) | ((with_reducible refine gate_builtin (b := .append) (xs := #[.tmp 95, .tmp 99]) rfl ?_); at_builtin; go_loud (refine TE.append (w := w) (W := W) (g := g0) (cl := cl) (l := l) (j := j) (oki := oki) (c := cc) (v := .slice A7 (lastP l).f3.length c3) (xs := (lastP l).f3) (⟨a, b⟩ : S62) (.tmp 95) (.tmp 99) rfl rfl rfl rfl (by repeat (first | exact HE.out | apply TE.drewN | apply TE.drew) : TE w W _ g0 cl l j oki cc (.slice A7 (lastP l).f3.length c3) (lastP l).f3) HLT.out.2 ?_); intro oki2 v3 W3 hG; have HG := Aside0.mk hG; clear hG) | ((with_reducible refine gate_store (t := 53) (p := 102) rfl ?_); go_loud (refine Kd.H_store k55 (w0 := w) w.heap.size rfl rfl 53 (.tmp 102) (.tmp 100) rfl 55 (o' := j * 4 + 3) (j : Int) 3 l (⟨(lastP l).f0, (lastP l).f1, (lastP l).f2, (lastP l).f3 ++ [⟨a, b⟩]⟩ : S55) v3 [v3] cc (fun _ => True) oki2 oki2 ((show _ = Value.pointer (some ⟨(ad.add (j * 4)).block, (ad.add (j * 4)).off + 3, none⟩) from rfl).trans (by rw [HAD.out, add_at, Nat.zero_add])) rfl rfl (Kd.R_val HG.out.r).1 rfl (fun q hq => by rw [List.mem_singleton.1 hq]; exact (Kd.R_val HG.out.r).2) (by repeat (first | exact HG.out | apply TE.drewN | apply TE.drew) : TE w W _ g0 cl l j oki2 cc v3 ((lastP l).f3 ++ [⟨a, b⟩])).h (by omega) (by have := HJ.out; have := of_decide_eq_true z2; omega) (show 3 + 1 ≤ 4 by decide) (by rw [HCC.out]; exact k55_mkM _ _ _ (⟨(lastP l).f0, (lastP l).f1, (lastP l).f2, (lastP l).f3 ++ [⟨a, b⟩]⟩ : S55) (by repeat (first | exact HG.out | apply TE.drewN | apply TE.drew) : TE w W _ g0 cl l j oki2 cc v3 ((lastP l).f3 ++ [⟨a, b⟩])).r) (fun _ hk => hk) (by repeat (first | exact HG.out | apply TE.drewN | apply TE.drew) : TE w W _ g0 cl l j oki2 cc v3 ((lastP l).f3 ++ [⟨a, b⟩])).bel ?_); intro W4 hs4 hb4 hg4; have HF := Aside0.mk (TI.mk hs4 hb4 ((by repeat (first | exact HG.out | apply TE.drewN | apply TE.drew) : TE w W _ g0 cl l j oki2 cc v3 ((lastP l).f3 ++ [⟨a, b⟩])).st.trans (Stays.of_grown (v := .slice (some ⟨g0, 0, none⟩) l.length cl) hg4 (by repeat (first | exact HG.out | apply TE.drewN | apply TE.drew) : TE w W _ g0 cl l j oki2 cc v3 ((lastP l).f3 ++ [⟨a, b⟩])).typed (by decide)))); clear hs4 hb4 hg4))
  refine bodyPost_ret (results_list (rs := [.tmp 4, .tmp 5]) rfl (by simp) (.tmp (.tmp .nil))) rfl ?_
  refine ⟨_, rfl, ?_⟩
  rw [HAD.out]
  unfold addStep
  rw [← HJ.out]
  repeat (first | exact HF.out | apply TI.drewN | apply TI.drew)
theorem TakeOne.calls (K : Nat) (line : ByteArray) (l : List S55) (b : Bool) (l' : List S55) (v : Value) (w W : World) (hV : VarsOK W) (hI : TI w W W v l) (h : TakeOne K line l = some (b, l')) :
 Calls Tryd.prog 31 #[v, .string line] W (TOut w W b l') := by
 unfold TakeOne at h
 replace h := Option.bind_eq_some_iff.mp h
 obtain ⟨t, ht, h⟩ := h
 by_cases hl : t.length < 3
 · rw [if_pos hl] at h
   have e := Option.some.inj h
   injection e with e1 e2
   subst e1 e2
   exact TakeOne.few K line l v w W t hV hI ht hl
 rw [if_neg hl] at h
 replace hl : 3 ≤ t.length := by omega
 replace h := Option.bind_eq_some_iff.mp h
 obtain ⟨⟨x, ox⟩, hx, h⟩ := h
 replace h := Option.bind_eq_some_iff.mp h
 obtain ⟨⟨y, oy⟩, hy, h⟩ := h
 dsimp only at h
 by_cases h1 : ox = true
 · rw [if_pos h1] at h
   by_cases h2 : oy = true
   · rw [if_pos h2] at h
     by_cases h4 : t.length = 4
     · rw [if_pos h4] at h
       by_cases hA : (rdOf ByteArray.empty t 0).toList = [112, 97, 115, 115]
       · rw [if_pos hA] at h
         replace h := Option.bind_eq_some_iff.mp h
         obtain ⟨ok, hw, h⟩ := h
         by_cases ho : ok = true
         · rw [if_pos ho] at h
           obtain ⟨hlt, h⟩ := guardT h
           have e := Option.some.inj h
           injection e with e1 e2
           subst e1 e2
           exact TakeOne.pass K line l v w W t hV hI ht hl x y ox oy hx hy h1 h2 ok hw h4 hA ho hlt
         · rw [if_neg ho] at h
           have e := Option.some.inj h
           injection e with e1 e2
           subst e1 e2
           exact TakeOne.noword K line l v w W t hV hI ht hl x y ox oy hx hy h1 h2 ok hw h4 hA (Bool.eq_false_iff.mpr ho)
       · rw [if_neg hA] at h
         have e := Option.some.inj h
         injection e with e1 e2
         subst e1 e2
         exact TakeOne.nopass K line l v w W t hV hI ht hl x y ox oy hx hy h1 h2 h4 hA
     · rw [if_neg h4] at h
       by_cases h3 : t.length = 3
       · rw [if_pos h3] at h
         by_cases hA : (rdOf ByteArray.empty t 0).toList = [114, 97, 116, 101]
         · rw [if_pos hA] at h
           by_cases hz : l.length = 0
           · rw [if_pos hz] at h
             have e := Option.some.inj h
             injection e with e1 e2
             subst e1 e2
             exact TakeOne.nolast K line l v w W t hV hI ht hl x y ox oy hx hy h1 h2 h3 hA hz
           · rw [if_neg hz] at h
             obtain ⟨hlt, h⟩ := guardT h
             have e := Option.some.inj h
             injection e with e1 e2
             subst e1 e2
             exact TakeOne.rate K line l v w W t hV hI ht hl x y ox oy hx hy h1 h2 h3 hA hz hlt
         · rw [if_neg hA] at h
           have e := Option.some.inj h
           injection e with e1 e2
           subst e1 e2
           exact TakeOne.norate K line l v w W t hV hI ht hl x y ox oy hx hy h1 h2 h3 hA
       · rw [if_neg h3] at h
         have e := Option.some.inj h
         injection e with e1 e2
         subst e1 e2
         exact TakeOne.long K line l v w W t hV hI ht hl x y ox oy hx hy h1 h2 h4 h3
   · rw [if_neg h2] at h
     have e := Option.some.inj h
     injection e with e1 e2
     subst e1 e2
     exact TakeOne.two K line l v w W t hV hI ht hl x y ox oy hx hy h1 (Bool.eq_false_iff.mpr h2)
 · rw [if_neg h1] at h
   have e := Option.some.inj h
   injection e with e1 e2
   subst e1 e2
   exact TakeOne.one K line l v w W t hV hI ht hl x y ox oy hx hy (Bool.eq_false_iff.mpr h1)
/-- The passes behind the box that the closure holds. -/
structure RI (w W : World) (gl : Nat) (v : Value) (l : List S55) : Prop where
  bl : W.heap[gl]? = some (.cells #[v] 22 (0, 0))
  s : Kd.S k55 55 W w.heap.size (fun _ => True) v l
  bel : Below w.heap.size w W
  gl0 : w.heap.size ≤ gl
theorem RI.below {w W W2 : World} {gl : Nat} {v : Value} {l : List S55} (h : RI w W gl v l) (hb : Below W.heap.size W W2) : RI w W2 gl v l := ⟨blk_below h.bl hb, Kd.S_below h.s hb, below_step h.bel hb, h.gl0⟩
theorem RI.drewN {w W : World} {gl : Nat} {v : Value} {l : List S55} (h : RI w W gl v l) (n : Nat) : RI w (W.drewN n) gl v l := h.below (pw_below_drewN (Below.refl _ _) n)
theorem RI.drew {w W : World} {gl : Nat} {v : Value} {l : List S55} (h : RI w W gl v l) : RI w W.drew gl v l := h.below (below_drew (Below.refl _ _))
def ReadInv (w W : World) (gl : Nat) (l : List S55) : Prop := ∃ v, RI w W gl v l
theorem ReadInv.mk {w W : World} {gl : Nat} {v : Value} {l : List S55} (h : RI w W gl v l) : ReadInv w W gl l := ⟨v, h⟩
theorem ReadInv.below {w W W2 : World} {gl : Nat} {l : List S55} (h : ReadInv w W gl l) (hb : Below W.heap.size W W2) : ReadInv w W2 gl l := by
  obtain ⟨v, h⟩ := h
  exact ⟨v, h.below hb⟩
theorem ReadInv.drewN {w W : World} {gl : Nat} {l : List S55} (h : ReadInv w W gl l) (n : Nat) : ReadInv w (W.drewN n) gl l := h.below (pw_below_drewN (Below.refl _ _) n)
theorem ReadInv.drew {w W : World} {gl : Nat} {l : List S55} (h : ReadInv w W gl l) : ReadInv w W.drew gl l := h.below (below_drew (Below.refl _ _))
theorem ReadInv.bel {w W : World} {gl : Nat} {l : List S55} (h : ReadInv w W gl l) : Below w.heap.size w W := h.choose_spec.bel
theorem RI.put {w W W3 : World} {gl : Nat} {v v' : Value} {l l' : List S55} (h : RI w W gl v l) (ht : TI w W W3 v' l') : RI w (W3.setCell ⟨gl, 0, none⟩ v') gl v' l' :=
  ⟨blk_set (ht.st gl _ h.bl) 0 v', Kd.S_set ht.s (ht.st gl _ h.bl) (by decide) 0 v', below_set ht.bel h.gl0, h.gl0⟩
set_option maxHeartbeats 8000000 in
set_option maxRecDepth 100000 in
theorem ReadOne.calls (K : Nat) (line : ByteArray) (l : List S55) (b : Bool) (l' : List S55) (gl : Nat) (w W : World) (hV : VarsOK W) (hI : ReadInv w W gl l) (h : TakeOne K line l = some (b, l')) :
 Calls Tryd.prog 30 #[.string line, .pointer (some ⟨gl, 0, none⟩)] W fun e w' => e = .returned (.bool b) ∧ ReadInv w w' gl l' := by
 obtain ⟨v, hR⟩ := hI
 have HV := Aside0.mk hV
 have HR := Aside0.mk hR
 have A1 := Aside0.mk h
 have hbl : W.cell? ⟨gl, 0, none⟩ = some v := (blk_cell hR.bl 0).trans rfl
 clear hV hR h
 obtain ⟨Al, cl, el⟩ := Kd.S_slice HR.out.s
 subst el
 go_enter Tryd.func30, Tryd.ntmps30
 go_wp2_with (go_at_call 31; go_loud (refine (TakeOne.calls K line l _ _ (.slice Al l.length cl) w _ HV.out ⟨HR.out.s, HR.out.bel, Stays.refl _⟩ A1.out).mono ?_); rintro e w3 ⟨v', rfl, hT⟩; have HT := Aside0.mk hT; have hb3 := hT.st gl _ HR.out.bl; have hc3 : w3.cell? ⟨gl, 0, none⟩ = some (.slice Al l.length cl) := (blk_cell hb3 0).trans rfl; have hf3 := blk_frozen hb3 0; obtain ⟨Av, cv, ev⟩ := Kd.S_slice hT.s; subst ev; clear hT hb3)
 go_ret
 exact ⟨rfl, _, by repeat (first | exact HR.out.put HT.out | apply RI.drewN | apply RI.drew)⟩
def ReadLines : Nat → ByteArray → Int → List S55 → Option (Int × List S55)
  | 0, _, _, _ => none
  | k + 1, x, n, l => if x.toList = ([] : List UInt8) then some (0, l) else if Lib.indexByte x.data.toList 10 < 0 then some (n, l) else
      if Lib.indexByte x.data.toList 10 < (x.size : Int) ∧ 0 ≤ wrap64 (Lib.indexByte x.data.toList 10 + 1) ∧ wrap64 (Lib.indexByte x.data.toList 10 + 1) ≤ (x.size : Int) then (TakeOne k (x.extract 0 (Lib.indexByte x.data.toList 10).toNat) l).bind fun r => if r.1 = true then ReadLines k (x.extract (wrap64 (Lib.indexByte x.data.toList 10 + 1)).toNat x.size) (wrap64 (n + 1)) r.2 else some (n, r.2) else none
set_option maxHeartbeats 8000000 in
set_option maxRecDepth 100000 in
theorem ReadLines.calls (k : Nat) (text : ByteArray) (l : List S55) (r : Int) (l' : List S55) (gl : Nat) (w W : World) (hV : VarsOK w) (hI : ReadInv w W gl l) (h : ReadLines k text 1 l = some (r, l')) :
 Calls Tryd.prog 29 #[.string text, .func (.func 30) #[] #[.pointer (some ⟨gl, 0, none⟩)]] W fun e w' => e = .returned (.int .i64 r) ∧ ReadInv w w' gl l' := by
 have HV := Aside0.mk hV
 have HI := Aside0.mk hI
 have H' := Aside0.mk h
 clear hV hI h
 go_enter Tryd.func29, Tryd.ntmps29
 go_wp2
 go_loopg [0, 5] k (fun kq v0 v5 w' => ∃ (x : ByteArray) (n : Int) (l1 : List S55), v0 = .string x ∧ v5 = .int .i64 n ∧ Aside0 (ReadLines kq x n l1 = some (r, l')) ∧ Aside0 (kq ≤ k) ∧ Aside0 (ReadInv w w' gl l1))
 case atStart => exact ⟨text, 1, l, rfl, rfl, H', ⟨Nat.le_refl _⟩, HI⟩
 case round =>
  clear H' HI
  obtain ⟨x, n, l1, rfl, rfl, HA, HK1, HI⟩ := hrel
  cases gk with
  | zero => exact absurd HA.out (by simp [ReadLines])
  | succ k1 =>
   have H := HA.out
   clear HA
   simp only [ReadLines] at H
   by_cases c3 : x.toList = ([] : List UInt8)
   · rw [if_pos c3] at H
     have c3b0 : (x.toList == ([] : List UInt8)) = true := beq_iff_eq.mpr c3
     have c3b1 : (x.toList != ([] : List UInt8)) = false := bne_eq_false_iff_eq.mpr c3
     clear c3
     simp only [Option.some.injEq, Prod.mk.injEq] at H
     obtain ⟨rfl, rfl⟩ := H
     go_wp2
     go_ret
     exact ⟨rfl, d8b⟩
   · rw [if_neg c3] at H
     have c3b0 : (x.toList == ([] : List UInt8)) = false := beq_eq_false_iff_ne.mpr c3
     have c3b1 : (x.toList != ([] : List UInt8)) = true := bne_iff_ne.mpr c3
     clear c3
     have A1 := Aside0.mk (show strings_IndexByte.f x 10 = some (Lib.indexByte x.data.toList 10) from rfl)
     by_cases c4 : Lib.indexByte x.data.toList 10 < 0
     · rw [if_pos c4] at H
       generalize Lib.indexByte x.data.toList 10 = j at c4 A1
       have c4b0 : decide (j < 0) = true := decide_eq_true c4
       clear c4
       simp only [Option.some.injEq, Prod.mk.injEq] at H
       obtain ⟨rfl, rfl⟩ := H
       go_wp2_with (go_at_call 65; go_loud (with_reducible refine (strings_IndexByte.calls x 10 _ _ A1.out).mono ?_); rintro e w' ⟨rfl, ⟨nd, rfl⟩⟩)
       go_ret
       exact ⟨rfl, d8b⟩
     · rw [if_neg c4] at H
       obtain ⟨⟨c5, c6, c7⟩, H⟩ := guardT H
       obtain ⟨i, hi⟩ : ∃ i : Nat, Lib.indexByte x.data.toList 10 = (i : Int) := ⟨(Lib.indexByte x.data.toList 10).toNat, by omega⟩
       rw [hi] at H A1 c5 c6 c7
       rw [Int.toNat_natCast] at H
       have c4b0 : decide ((i : Int) < 0) = false := decide_eq_false (by omega)
       have hle : (i : Int) ≤ (x.size : Int) := by omega
       have hle1 : i ≤ x.size := by omega
       have hq0 : (0 ≤ wrap64 ((i : Int) + 1)) = True := eq_true c6
       have hq1 : (wrap64 ((i : Int) + 1) ≤ (x.size : Int)) = True := eq_true c7
       have hb1 : decide ((i : Int) ≤ (x.size : Int)) = true := decide_eq_true hle
       clear c6 c7
       clear hi c4
       replace H := Option.bind_eq_some_iff.mp H
       obtain ⟨⟨b, l2⟩, hO, H⟩ := H
       have A2 := Aside0.mk hO
       clear hO
       cases b with
       | false =>
        rw [if_neg (show ¬ ((false, l2) : Bool × _).1 = true by simp)] at H
        simp only [Option.some.injEq, Prod.mk.injEq] at H
        obtain ⟨rfl, rfl⟩ := H
        go_wp2_with (first | (go_at_call 65; go_loud (with_reducible refine (strings_IndexByte.calls x 10 _ _ A1.out).mono ?_); rintro e w' ⟨rfl, ⟨nd, rfl⟩⟩) | ((with_reducible refine (ReadOne.calls k1 _ l1 _ _ gl w _ (HV.out.below (by repeat (first | exact HI.out.bel | apply pw_below_drewN))) d8b A2.out).mono ?_); rintro e w2 ⟨rfl, hI2⟩; have HI2 := Aside0.mk hI2; clear hI2))
        go_ret
        exact ⟨rfl, by repeat (first | exact HI2.out | apply ReadInv.drewN)⟩
       | true =>
        rw [if_pos (show ((true, l2) : Bool × _).1 = true from rfl)] at H
        have H' := Aside0.mk H
        clear H
        go_wp2_with (first | (go_at_call 65; go_loud (with_reducible refine (strings_IndexByte.calls x 10 _ _ A1.out).mono ?_); rintro e w' ⟨rfl, ⟨nd, rfl⟩⟩) | ((with_reducible refine (ReadOne.calls k1 _ l1 _ _ gl w _ (HV.out.below (by repeat (first | exact HI.out.bel | apply pw_below_drewN))) d8b A2.out).mono ?_); rintro e w2 ⟨rfl, hI2⟩; have HI2 := Aside0.mk hI2; clear hI2))
        go_roundg k1
        case measure => omega
        case rel => exact ⟨_, _, l2, rfl, rfl, H', ⟨by have := HK1.out; omega⟩, ⟨by repeat (first | exact HI2.out | apply ReadInv.drewN)⟩⟩
def contact_Read.f (k : Nat) (a0 : ByteArray) : Option (List S55 × Int × Int) := if (a0.size : Int) > 200000 then some ([], 0, 2) else (ReadLines k a0 1 []).bind fun r => if r.1 > 0 then some ([], r.1, 10) else (contact_CheckPasses.f k r.2).bind fun f => if f = 0 then some (r.2, 0, 0) else some ([], 0, f)
set_option maxHeartbeats 8000000 in
set_option maxRecDepth 100000 in
theorem contact_Read.calls (k : Nat) (a0 : ByteArray) (r1 : List S55) (r2 r3 : Int) (w : World) (hV : VarsOK w) (h : contact_Read.f k a0 = some (r1, r2, r3)) :
 Calls Tryd.prog 8 #[.string a0] w fun e w' => ∃ v0_ : Value, e = .returned (.tuple #[v0_, .int .i64 r2, .int .i64 r3]) ∧ Kd.S k55 55 w' w.heap.size (fun _ => True) v0_ r1 ∧ Below w.heap.size w w' := by
 have HV := Aside0.mk hV
 clear hV
 unfold contact_Read.f at h
 by_cases hs : (a0.size : Int) > 200000
 · rw [if_pos hs] at h
   have c1 : decide (200000 < (a0.size : Int)) = true := decide_eq_true hs
   have c2 : decide (200000 < a0.size) = true := decide_eq_true (by omega)
   clear hs
   simp only [Option.some.injEq, Prod.mk.injEq] at h
   obtain ⟨rfl, rfl, rfl⟩ := h
   go_enter Tryd.func8, Tryd.ntmps8
   go_wp2
   refine bodyPost_ret (results_list (rs := [.tmp 2, .tmp 3, .tmp 4]) rfl (by simp) (.tmp (.tmp (.tmp .nil)))) rfl ?_
   exact ⟨_, rfl, Kd.S_nil _ _ _ _ _, by repeat (first | exact Below.refl _ _ | exact Below.refl _ _ | apply pw_below_drewN)⟩
 · rw [if_neg hs] at h
   have c1 : decide (200000 < (a0.size : Int)) = false := decide_eq_false hs
   have c2 : decide (200000 < a0.size) = false := decide_eq_false (by omega)
   clear hs
   replace h := Option.bind_eq_some_iff.mp h
   obtain ⟨⟨n, rl⟩, hL, h⟩ := h
   have A1 := Aside0.mk hL
   clear hL
   dsimp only at h
   by_cases hn : n > 0
   · rw [if_pos hn] at h
     have c3 : decide (0 < n) = true := decide_eq_true hn
     clear hn
     simp only [Option.some.injEq, Prod.mk.injEq] at h
     obtain ⟨rfl, rfl, rfl⟩ := h
     go_enter Tryd.func8, Tryd.ntmps8
     go_wp2_with (first | ((with_reducible refine gate_dst (N := 5) rfl ?_); refine box_event ?hg (N := 5) ?hd (cs := #[.slice none 0 0]) (t := 22) ?hr ?_; (case hd => rfl); (case hg => rfl); (case hr => first | (go_simp; done) | (go_simp; rfl)); intro gl hgl_ w5 hbox hb; have G5 := Aside0.mk hgl_; have B5 := Aside0.mk hbox; have N5 := Aside0.mk hb; clear hgl_ hbox hb) | (go_at_call 29; go_loud (with_reducible refine (ReadLines.calls k a0 [] _ _ gl w _ (HV.out) (ReadInv.mk (RI.mk (v := .slice none 0 0) B5.out (Kd.S_nil _ _ _ _ _) N5.out (Nat.le_of_eq G5.out.symm))) A1.out).mono ?_); rintro e w8 ⟨rfl, hI⟩; have HI := Aside0.mk hI; clear hI))
     refine bodyPost_ret (results_list (rs := [.tmp 2, .tmp 3, .tmp 4]) rfl (by simp) (.tmp (.tmp (.tmp .nil)))) rfl ?_
     exact ⟨_, rfl, Kd.S_nil _ _ _ _ _, by repeat (first | exact Below.refl _ _ | exact HI.out.bel | apply pw_below_drewN)⟩
   · rw [if_neg hn] at h
     have c3 : decide (0 < n) = false := decide_eq_false hn
     clear hn
     replace h := Option.bind_eq_some_iff.mp h
     obtain ⟨f, hC, h⟩ := h
     have A2 := Aside0.mk hC
     clear hC
     by_cases hf : f = 0
     · rw [if_pos hf] at h
       subst hf
       simp only [Option.some.injEq, Prod.mk.injEq] at h
       obtain ⟨rfl, rfl, rfl⟩ := h
       go_enter Tryd.func8, Tryd.ntmps8
       go_wp2_with (first | ((with_reducible refine gate_dst (N := 5) rfl ?_); refine box_event ?hg (N := 5) ?hd (cs := #[.slice none 0 0]) (t := 22) ?hr ?_; (case hd => rfl); (case hg => rfl); (case hr => first | (go_simp; done) | (go_simp; rfl)); intro gl hgl_ w5 hbox hb; have G5 := Aside0.mk hgl_; have B5 := Aside0.mk hbox; have N5 := Aside0.mk hb; clear hgl_ hbox hb) | (go_at_call 29; go_loud (with_reducible refine (ReadLines.calls k a0 [] _ _ gl w _ (HV.out) (ReadInv.mk (RI.mk (v := .slice none 0 0) B5.out (Kd.S_nil _ _ _ _ _) N5.out (Nat.le_of_eq G5.out.symm))) A1.out).mono ?_); rintro e w8 ⟨rfl, hI⟩; obtain ⟨vl, RX⟩ := hI; have HX := Aside0.mk RX; clear RX; obtain ⟨Al, cl, el⟩ := Kd.S_slice HX.out.s; subst el; have hbl : w8.cell? ⟨gl, 0, none⟩ = some (.slice Al rl.length cl) := (blk_cell HX.out.bl 0).trans rfl) | (go_at_call 24; go_loud (with_reducible refine (contact_CheckPasses.calls k _ _ rl _ _ (Kd.S_reads' HX.out.s).2.2 (Kd.S_reads' HX.out.s).2.1 A2.out).mono ?_); rintro e w9 ⟨rfl, hb9⟩; have HY := Aside0.mk (HX.out.below hb9); clear hb9 hbl; have hbl : w9.cell? ⟨gl, 0, none⟩ = some (.slice Al rl.length cl) := (blk_cell HY.out.bl 0).trans rfl))
       refine bodyPost_ret (results_list (rs := [.tmp 2, .tmp 3, .tmp 4]) rfl (by simp) (.tmp (.tmp (.tmp .nil)))) rfl ?_
       exact ⟨_, rfl, by (with_reducible repeat (first | apply Kd.S_alloc | apply Kd.S_drewN | apply Kd.S_drew)); exact HY.out.s, by repeat (first | exact HY.out.bel | apply pw_below_drewN | apply below_drew | apply below_drew1)⟩
     · rw [if_neg hf] at h
       have c4 : (f != 0) = true := bne_iff_ne.mpr hf
       have c5 : (f == 0) = false := beq_eq_false_iff_ne.mpr hf
       clear hf
       simp only [Option.some.injEq, Prod.mk.injEq] at h
       obtain ⟨rfl, rfl, rfl⟩ := h
       go_enter Tryd.func8, Tryd.ntmps8
       go_wp2_with (first | ((with_reducible refine gate_dst (N := 5) rfl ?_); refine box_event ?hg (N := 5) ?hd (cs := #[.slice none 0 0]) (t := 22) ?hr ?_; (case hd => rfl); (case hg => rfl); (case hr => first | (go_simp; done) | (go_simp; rfl)); intro gl hgl_ w5 hbox hb; have G5 := Aside0.mk hgl_; have B5 := Aside0.mk hbox; have N5 := Aside0.mk hb; clear hgl_ hbox hb) | (go_at_call 29; go_loud (with_reducible refine (ReadLines.calls k a0 [] _ _ gl w _ (HV.out) (ReadInv.mk (RI.mk (v := .slice none 0 0) B5.out (Kd.S_nil _ _ _ _ _) N5.out (Nat.le_of_eq G5.out.symm))) A1.out).mono ?_); rintro e w8 ⟨rfl, hI⟩; obtain ⟨vl, RX⟩ := hI; have HX := Aside0.mk RX; clear RX; obtain ⟨Al, cl, el⟩ := Kd.S_slice HX.out.s; subst el; have hbl : w8.cell? ⟨gl, 0, none⟩ = some (.slice Al rl.length cl) := (blk_cell HX.out.bl 0).trans rfl) | (go_at_call 24; go_loud (with_reducible refine (contact_CheckPasses.calls k _ _ rl _ _ (Kd.S_reads' HX.out.s).2.2 (Kd.S_reads' HX.out.s).2.1 A2.out).mono ?_); rintro e w9 ⟨rfl, hb9⟩; have HY := Aside0.mk (HX.out.below hb9); clear hb9 hbl; have hbl : w9.cell? ⟨gl, 0, none⟩ = some (.slice Al rl.length cl) := (blk_cell HY.out.bl 0).trans rfl))
       refine bodyPost_ret (results_list (rs := [.tmp 2, .tmp 3, .tmp 4]) rfl (by simp) (.tmp (.tmp (.tmp .nil)))) rfl ?_
       exact ⟨_, rfl, Kd.S_nil _ _ _ _ _, by repeat (first | exact Below.refl _ _ | exact HY.out.bel | apply pw_below_drewN)⟩
end Go.Proofs.YtbngmblgkkdhpaaDoor.Q
