-- Made by wip/tools/claimp.py of this session's texts; Lean checks it.
import Derived.Test.YtbngmblgkkdhpaaDoorC7Q0
import Derived.Test.YtbngmblgkkdhpaaDoorC7Gd1
import Derived.Test.YtbngmblgkkdhpaaDoorC7Gd12
namespace Go.Proofs.YtbngmblgkkdhpaaDoor.Q
open Go.RowKit Go.Proofs.YtbngmblgkkdhpaaDoorW.PrintWords Go.Proofs.YtbngmblgkkdhpaaDoorW.PrintLast Go.Proofs.YtbngmblgkkdhpaaDoorW.PrintMore
attribute [local go_sem] max2_int min2_int max_two min_two max_three min_three max_four min_four
open Go.Proofs.YtbngmblgkkdhpaaDoor.Base
attribute [local go_sem high] str_leq str_gtr str_geq
set_option linter.unusedVariables false
set_option linter.unusedSimpArgs false
def contact_check.f (k : Nat) (l0 : List (S55)) (l1 : List Int) : Option (Int) := (contact_CheckPasses.f k l0).bind fun t101 => (if t101 = 0 then ((contact_checkBooked.f k l0 l1).bind fun t102 => (some t102)) else (some t101))
theorem d56a {p : Prop} (h : p := by (try simp only [List.map_toArray, List.map_cons, List.map_nil]); first | done | rfl | (simp only [List.length_drop, List.length_take]; rfl)) : p := h
theorem d56b {p : Prop} (h : p := by repeat (first | (with_reducible first | exact HB.out | apply below_alloc | apply pw_below_drewN | apply below_drew1) | exact HB.out)) : p := h
set_option maxHeartbeats 8000000 in
set_option maxRecDepth 100000 in
theorem contact_check.calls (k : Nat) (A0 : Option Addr) (c0 : Nat) (l0 : List (S55)) (A1 : Option Addr) (c1 : Nat) (l1 : List Int) (r : Int) (w : World) (hr0 : Kd.C k55 w A0 l0.length l0) (hc0 : l0.length ≤ c0) (hr1 : Kd.C (Kd.int .i64) w A1 l1.length l1) (hc1 : l1.length ≤ c1) (h : contact_check.f k l0 l1 = some r) :
 Calls Tryd.prog 56 #[.slice A0 l0.length c0, .slice A1 l1.length c1] w fun e w' => e = .returned (.int .i64 r) ∧ Below w.heap.size w w' := by
 have HR0 := Aside0.mk hr0
 have HC0 := Aside0.mk hc0
 clear hr0 hc0
 have HR1 := Aside0.mk hr1
 have HC1 := Aside0.mk hc1
 clear hr1 hc1
 have HB := Aside0.mk (Below.refl w.heap.size w)
 have H : ((contact_CheckPasses.f k l0).bind fun t101 => (if t101 = 0 then ((contact_checkBooked.f k l0 l1).bind fun t102 => (some t102)) else (some t101))) = some r := h
 clear h
 replace H := bindS H; obtain ⟨t101, A3, H⟩ := H
 by_cases c4 : t101 = 0
 · rw [if_pos c4] at H
   have c4b0 : (t101 == 0) = true := beq_iff_eq.mpr c4
   have c4b1 : (t101 != 0) = false := bne_eq_false_iff_eq.mpr c4
   clear c4
   replace H := bindS H; obtain ⟨t102, A5, H⟩ := H
   obtain rfl := Option.some.inj H
   go_enter Tryd.func56, Tryd.ntmps56
   go_wp2_with (first | ((with_reducible refine gate_callee (f := 24) rfl ?_); refine goesL_ (some 7) rfl rfl Tryd.func24 (by kernel_rfl) rfl #[.slice A0 l0.length c0] rfl d56a ?_; (with_reducible refine (contact_CheckPasses.calls k _ _ l0 t101 _ ?side1 ?side2 A3.out).mono ?_); (case side1 => exact C_go HR0.out); (case side2 => exact HC0.out); rintro e w6 ⟨rfl, hb⟩; refine ⟨_, rfl, ?_⟩; replace HB := Aside0.mk (below_step d56b hb); (try clear hb)) | ((with_reducible refine gate_callee (f := 59) rfl ?_); refine goesL_ (some 13) rfl rfl Tryd.func59 (by kernel_rfl) rfl #[.slice A0 l0.length c0, .slice A1 l1.length c1] rfl d56a ?_; (with_reducible refine (contact_checkBooked.calls k _ _ l0 _ _ l1 t102 _ ?side1 ?side2 ?side3 ?side4 A5.out).mono ?_); (case side1 => exact C_go (Kd.C_below HR0.out HB.out)); (case side2 => exact HC0.out); (case side3 => exact C_go (Kd.C_below HR1.out HB.out)); (case side4 => exact HC1.out); rintro e w' ⟨rfl, ⟨nd, rfl⟩⟩; refine ⟨_, rfl, ?_⟩))
   go_ret
   exact ⟨by first | rfl | (simp [errW_none, errW_some] <;> rfl) | (simp [*, errW_none, errW_some] <;> rfl), d56b⟩
 · rw [if_neg c4] at H
   have c4b0 : (t101 == 0) = false := beq_eq_false_iff_ne.mpr c4
   have c4b1 : (t101 != 0) = true := bne_iff_ne.mpr c4
   obtain rfl := Option.some.inj H
   go_enter Tryd.func56, Tryd.ntmps56
   go_wp2_with ((with_reducible refine gate_callee (f := 24) rfl ?_); refine goesL_ (some 7) rfl rfl Tryd.func24 (by kernel_rfl) rfl #[.slice A0 l0.length c0] rfl d56a ?_; (with_reducible refine (contact_CheckPasses.calls k _ _ l0 t101 _ ?side1 ?side2 A3.out).mono ?_); (case side1 => exact C_go HR0.out); (case side2 => exact HC0.out); rintro e w7 ⟨rfl, hb⟩; refine ⟨_, rfl, ?_⟩; replace HB := Aside0.mk (below_step d56b hb); (try clear hb))
   go_ret
   exact ⟨by first | rfl | (simp [errW_none, errW_some] <;> rfl) | (simp [*, errW_none, errW_some] <;> rfl), d56b⟩
def toB (b : List UInt8) : ByteArray := ⟨b.toArray⟩
def sortB (l : List ByteArray) : List ByteArray := ((l.map fun s => s.data.toList).mergeSort leB).map toB
theorem map_toB (l : List (List UInt8)) : (l.map toB).map (fun s : ByteArray => s.data.toList) = l := by
  rw [List.map_map]
  exact (List.map_congr_left (fun b _ => List.toList_toArray ..)).trans (List.map_id _)
theorem toB_map (l : List ByteArray) : l.map Value.string = (l.map fun s : ByteArray => s.data.toList).map Go.Proofs.encStr := by
  rw [List.map_map]
  rfl
theorem sortB_len (l : List ByteArray) : (sortB l).length = l.length := by
  unfold sortB
  rw [List.length_map, (List.mergeSort_perm _ _).length_eq, List.length_map]
open Go.Sort in
theorem sortStr_calls {ok : Nat → Prop} (v : Value) (l : List ByteArray) (w0 w : World) (hl : l.length < 4611686018427387904) (hB : Below w0.heap.size w0 w) (ho0 : Kd.R Kd.string 9 w w0.heap.size ok v l) :
    Calls Tryd.prog 57 #[v] w fun e w' => e = .returned (.tuple #[]) ∧ Kd.R Kd.string 9 w' w0.heap.size (fun _ => True) v (sortB l) ∧ Below w0.heap.size w0 w' ∧ w.grownBy w' v.ownBlock := by
  have ho := Kd.own_of_R ho0
  rcases ho.2 with ⟨hv, hn⟩ | ⟨g, cap, cur, hv, hbase, hb, h1, h2, h3, h4⟩
  · subst hv
    obtain rfl : l = [] := List.eq_nil_of_length_eq_zero hn
    refine (Tryd.slices_Sort_string_none none 0 w).mono ?_
    rintro e w' ⟨rfl, rfl⟩
    exact ⟨rfl, by unfold sortB; rw [List.map_nil, List.mergeSort_nil]; exact Kd.R_nil _ _ _ _ _, hB, World.grownBy.refl _ _⟩
  · subst hv
    have hss : (l.map fun s : ByteArray => s.data.toList).length = l.length := List.length_map ..
    have hperm := List.mergeSort_perm (l.map fun s : ByteArray => s.data.toList) leB
    have h4' : cur.toList.take (l.map fun s : ByteArray => s.data.toList).length = (l.map fun s : ByteArray => s.data.toList).map Go.Proofs.encStr := by
      rw [hss, ← toB_map]
      rw [Nat.mul_one] at h4
      exact h4
    have hS := Tryd.slices_Sort_string g 0 cap (l.map fun s : ByteArray => s.data.toList) w (holds_of_block hb h4') (blk_lt hb) (by rw [hss]; exact hl)
    rw [hss] at hS
    refine hS.mono ?_
    rintro e w' ⟨rfl, n, os, rfl⟩
    have hg := grownBy_sorted (w := w) (g := g) (n := n) (os := os) ((l.map fun s : ByteArray => s.data.toList).mergeSort leB).toArray
    have hown := ownsRow_sorted (n := n) (os := os) (e := 9) (base := w0.heap.size) (cap := cap) hperm.length_eq hbase hb (by rw [hss]; exact h1) h2 h3
    rw [hss] at hown
    refine ⟨rfl, Kd.R_of_own (by
      rw [sortB_len]
      have e2 : (sortB l).map Value.string = ((l.map fun s : ByteArray => s.data.toList).mergeSort leB).map Go.Proofs.encStr := by unfold sortB; rw [List.map_map]; rfl
      rw [show encs Value.string (sortB l) = ((l.map fun s : ByteArray => s.data.toList).mergeSort leB).map Go.Proofs.encStr from e2]
      exact hown) (fun _ _ => trivial), pw_below_grown hB _ hB.size hg (fun j hj => by cases hj; exact hbase), ?_⟩
    simpa [Value.ownBlock] using hg
def itoaP (n : Int) : ByteArray := ⟨(Lib.itoa n).toArray⟩
def namesD (m : MapD) : List ByteArray := ((strKeys m).mergeSort leB).map toB
def pairOf (m : MapD) (s : ByteArray) : S42 := ⟨s, itoaP (valD m s)⟩
def nameOK (m : MapD) (s : ByteArray) : Bool := decide (s.size ≤ 1000) && decide (-9223372036854775808 ≤ valD m s ∧ valD m s ≤ 9223372036854775807)
def contact_ByStation.f (k : Nat) (l0 : List S55) (l1 : List Int) : Option (List S42 × Int) :=
  (contact_check.f k l0 l1).bind fun c => if c = 0 then (if l1.length < 1000000 then (byD k l0 l1 (.map [])).bind fun m => if (namesD m).all (nameOK m) = true then some ((namesD m).map (pairOf m), 0) else none else none) else some ([], c)
theorem by_map_ne_row {H : Type} {PP : Program} {k : TypeId} {R : Value → Option (DataW H × List MemPlace)} {W : World} {b n : Nat} {m : DataW H} {base : Nat} {e : TypeId} {size : Nat} {v : Value} {q : Nat} {xs : List Value} (h : W.ownsMap PP k R b n m) (ho : W.ownsRow base e size v q xs) : some b ≠ v.ownBlock := fun he => by
  rcases ho.2 with ⟨hv, _⟩ | ⟨g, cap, cur, hv, _, hb, _⟩
  · subst hv; cases he
  · subst hv
    obtain ⟨es, clock, hm, _⟩ := h
    have e1 : b = g := by simpa [Value.ownBlock] using he
    subst e1
    rw [hb] at hm
    cases hm
theorem by_iter_ne {H : Type} {PP : Program} {k : TypeId} {R : Value → Option (DataW H × List MemPlace)} {W : World} {b r n cnt : Nat} {m : DataW H} {left : Lit → Bool} {base : Nat} {e : TypeId} {size : Nat} {v : Value} {q : Nat} {xs : List Value} (h : W.ranges PP k R b r n m left cnt) (ho : W.ownsRow base e size v q xs) : some r ≠ v.ownBlock := fun he => by
  rcases ho.2 with ⟨hv, _⟩ | ⟨g, cap, cur, hv, _, hb, _⟩
  · subst hv; cases he
  · subst hv
    obtain ⟨es, clock, since, seen, c0, _, _, _, _, hi, _⟩ := h
    have e1 : r = g := by simpa [Value.ownBlock] using he
    subst e1
    rw [hb] at hi
    cases hi
theorem by_map_ne_R {H α : Type} {d : Kd α} {PP : Program} {k : TypeId} {R : Value → Option (DataW H × List MemPlace)} {W : World} {b n : Nat} {m : DataW H} {base : Nat} {ok : Nat → Prop} {e : TypeId} {v : Value} {xs : List α} (h : W.ownsMap PP k R b n m) (hr : d.R e W base ok v xs) : some b ≠ v.ownBlock := by
  obtain ⟨inner, ho⟩ := Kd.R_own hr
  exact by_map_ne_row h ho
theorem pair_info : (Tryd.prog.info? 42).map (fun i => (i.zero, i.size, i.bytes)) = some (some (.agg #[.string ⟨#[]⟩, .string ⟨#[]⟩]), 2, 32) := by kernel_rfl
theorem str_info : (Tryd.prog.info? 9).map (fun i => (i.zero, i.size, i.bytes)) = some (some (.string ⟨#[]⟩), 1, 16) := by kernel_rfl
theorem d18a {p : Prop} (h : p := by repeat (first | exact HBB.out | apply pw_below_drewN)) : p := h
set_option maxHeartbeats 16000000 in
set_option maxRecDepth 100000 in
theorem contact_ByStation.calls (k : Nat) (A0 : Option Addr) (c0 : Nat) (l0 : List S55) (A1 : Option Addr) (c1 : Nat) (l1 : List Int) (r1 : List S42) (r2 : Int) (w : World) (hr0 : Kd.C k55 w A0 l0.length l0) (hc0 : l0.length ≤ c0) (hr1 : Kd.C (Kd.int .i64) w A1 l1.length l1) (hc1 : l1.length ≤ c1) (hV : VarsOK w) (h : contact_ByStation.f k l0 l1 = some (r1, r2)) :
 Calls Tryd.prog 18 #[.slice A0 l0.length c0, .slice A1 l1.length c1] w fun e w' => ∃ v0_ : Value, e = .returned (.tuple #[v0_, .int .i64 r2]) ∧ Kd.R k42 42 w' w.heap.size (fun _ => True) v0_ r1 ∧ Below w.heap.size w w' := by
 have HR0 := Aside0.mk hr0
 have HC0 := Aside0.mk hc0
 have HR1 := Aside0.mk hr1
 have HC1 := Aside0.mk hc1
 have HV := Aside0.mk hV
 clear hr0 hc0 hr1 hc1 hV
 unfold contact_ByStation.f at h
 replace h := Option.bind_eq_some_iff.mp h
 obtain ⟨c, hc, h⟩ := h
 have HCK := Aside0.mk hc
 clear hc
 by_cases h0 : c = 0
 · subst h0
   rw [if_pos rfl] at h
   obtain ⟨hlen, h⟩ := guardT h
   replace h := Option.bind_eq_some_iff.mp h
   obtain ⟨m, hm, h⟩ := h
   obtain ⟨hall, h⟩ := guardT h
   simp only [Option.some.injEq, Prod.mk.injEq] at h
   obtain ⟨rfl, rfl⟩ := h
   have HL1 := Aside0.mk hlen
   have HBY := Aside0.mk hm
   have HALL := Aside0.mk (show ∀ s ∈ namesD m, nameOK m s = true from List.all_eq_true.mp hall)
   clear hlen hm hall
   go_enter Tryd.func18, Tryd.ntmps18
   go_wp2_with (first | (go_at_call 56; go_loud (with_reducible refine (contact_check.calls k _ _ l0 _ _ l1 _ _ HR0.out HC0.out HR1.out HC1.out HCK.out).mono ?_); rintro e w1 ⟨rfl, hb⟩; have HB1 := Aside0.mk hb; clear hb) | (go_at_call 49; go_loud (refine (byStation_calls k _ _ l0 _ _ l1 m _ (Kd.C_below HR0.out HB1.out) HC0.out (Kd.C_below HR1.out HB1.out) HC1.out (by have := HL1.out; omega) HBY.out).mono ?_); rintro e w2 ⟨gm, rfl, hgm, hom, hb⟩; have HM := Aside0.mk hom; have HB2 := Aside0.mk (below_step HB1.out hb); clear hom hb hgm HB1) | (at_range; refine wpList_range_own _ rfl _ 93 rfl 9 3 lawStr2 Tryd.underlying93 (plainElem Tryd.prog 3) gm _ m rfl HM.out ?_; intro w4 hrg0 hg0 hs0; have HRG := Aside0.mk hrg0; have HB4 := Aside0.mk (pw_below_grown HB2.out _ HB2.out.size hg0 (by simp)); clear hrg0 hg0 hs0))
   go_frame
   go_loopg [8] (Maps.size m + 1) (fun kq v8 w' => ∃ (ks : List (List UInt8)) (left : Lit → Bool) (cnt : Nat), Aside0 (cnt < kq) ∧ Aside0 (w'.ranges (H := Unit) Tryd.prog 9 (plainElem Tryd.prog 3) gm w2.heap.size l1.length m left cnt) ∧ Aside0 (Collected m left ks) ∧ Aside0 (ks.length + cnt ≤ Maps.size m) ∧ Aside0 (Kd.R Kd.string 9 w' w.heap.size (fun _ => True) v8 (ks.map toB)) ∧ Aside0 (Below w.heap.size w w'))
   case atStart => exact ⟨[], Maps.has m, Maps.size m, ⟨Nat.lt_succ_self _⟩, ⟨HRG.out⟩, ⟨Collected.start m⟩, ⟨by simp⟩, ⟨Kd.R_nil _ _ _ _ _⟩, HB4⟩
   case round =>
    have HSZ := Aside0.mk (show Maps.size m ≤ l1.length from World.ownsMap.size_le HM.out)
    have HRn := Aside0.mk (show w.heap.size ≤ w2.heap.size from HB2.out.size)
    clear HRG HB4 HM
    obtain ⟨ks, left, cnt, HK, HRG, HCI, HLK, HKS, HBB⟩ := hrel
    cases gk with
    | zero => exact absurd HK.out (by omega)
    | succ k1 =>
     go_wp2_with (at_next; refine wpList_next_ranges _ rfl _ rfl 9 lawStr2 (plainElem Tryd.prog 3) Go.Proofs.encStr (Value.int .i64) (fun key kl h => by obtain ⟨x, hx, _⟩ := Maps.keyOf_str Tryd.underlying9 h; exact ⟨x, hx⟩) (fun v y hv => by obtain ⟨c, rfl, _⟩ := plainElem_int_inv Tryd.underlying3 hv; exact ⟨c, rfl⟩) gm w2.heap.size l1.length m _ _ rfl HRG.out ?_ ?_)
     · intro hc0 hl0
       have HL0 := Aside0.mk hl0
       clear hl0 hc0
       have hperm := HCI.out.perm HRG.out.owns lawStr2 Tryd.underlying9 HL0.out
       have hsrt : sortB (ks.map toB) = namesD m := by unfold sortB namesD; rw [map_toB, mergeSort_of_perm hperm]
       have hkl : (ks.map toB).length = (namesD m).length := by rw [← hsrt, sortB_len]
       have hkn : (ks.map toB).length ≤ 1000000 := by rw [List.length_map]; have := HLK.out; have := HSZ.out; have := HL1.out; omega
       have HSRT := Aside0.mk hsrt
       have HKL := Aside0.mk hkl
       have HKN := Aside0.mk hkn
       have HMM := Aside0.mk HRG.out.owns
       obtain ⟨kb, hkb⟩ : ∃ kb, kb = ks.map toB := ⟨_, rfl⟩
       rw [← hkb] at HKS HSRT HKL HKN
       have HKO := Aside0.mk HKS.out
       clear hkb HKS
       have HKS := HKO
       clear HKO
       have hform := Kd.R_slice HKS.out
       obtain ⟨Ak, ck, ek⟩ := hform
       subst ek
       clear hperm hsrt hkl hkn HL0 HRG HCI HLK HK
       go_wp2_with (go_at_call 57; go_loud (refine (sortStr_calls _ kb w _ (by have := HKN.out; omega) d18a (by (with_reducible repeat (first | apply Kd.R_drewN | apply Kd.R_drew)); exact HKS.out)).mono ?_); rintro e w6 ⟨rfl, hR6, hB6, hg6⟩; have HKS6 := Aside0.mk hR6; have HB6 := Aside0.mk hB6; have HM6 := Aside0.mk (World.ownsMap.kept (by first | exact HMM.out | exact map_below HMM.out (pw_below_drewN (Below.refl _ _) _)) hg6 (by_map_ne_row HMM.out (Kd.own_of_R HKS.out))); rw [HSRT.out] at HKS6; clear hR6 hB6 hg6)
       obtain ⟨nn, hnn⟩ : ∃ nn, nn = kb.length := ⟨_, rfl⟩
       skip
       go_loopg [10, 36] (namesD m).length (fun kq v10 v36 w' => ∃ i : Nat, v36 = .int .i64 (i : Int) ∧ Aside0 (kq + i = (namesD m).length) ∧ Aside0 (Kd.R k42 42 w' w.heap.size (fun _ => True) v10 (((namesD m).take i).map (pairOf m))) ∧ Aside0 (Kd.R Kd.string 9 w' w.heap.size (fun _ => True) (.slice Ak kb.length ck) (namesD m)) ∧ Aside0 (World.ownsMap (H := Unit) w' Tryd.prog 9 (plainElem Tryd.prog 3) gm l1.length m) ∧ Aside0 (Below w.heap.size w w'))
       case atStart => exact ⟨0, rfl, ⟨rfl⟩, ⟨by rw [List.take_zero, List.map_nil]; exact Kd.R_nil _ _ _ _ _⟩, ⟨by (with_reducible repeat (first | apply Kd.R_drewN | apply Kd.R_drew)); exact HKS6.out⟩, ⟨by first | exact HM6.out | exact map_below HM6.out (pw_below_drewN (Below.refl _ _) _)⟩, ⟨by repeat (first | exact HB6.out | apply pw_below_drewN)⟩⟩
       case round =>
        clear HKS6 HM6 HB6 HKS HBB HMM HSRT
        obtain ⟨i, rfl, HK, HPR, HKS, HM, HBB⟩ := hrel
        cases gk with
        | zero =>
         have hi : i = (namesD m).length := by have := HK.out; omega
         have hd1 : decide ((i : Int) < (kb.length : Int)) = false := decide_eq_false (by have := HKL.out; omega)
         have hd2 : decide (i < kb.length) = false := decide_eq_false (by have := HKL.out; omega)
         have HPR2 := HPR.out
         rw [hi, List.take_length] at HPR2
         have HP2 := Aside0.mk HPR2
         clear HPR HPR2 hi
         go_wp2
         refine bodyPost_ret (results_list (rs := [.tmp 4, .tmp 5]) rfl (by simp) (.tmp (.tmp .nil))) rfl ?_
         exact ⟨_, rfl, by (with_reducible repeat (first | apply Kd.R_drewN | apply Kd.R_drew)); exact HP2.out, d18a⟩
        | succ d =>
         have hi : i < (namesD m).length := by have := HK.out; omega
         have hi0 : (0 : Int) ≤ (i : Int) := by omega
         have hi1 : (i : Int) < (kb.length : Int) := by have := HKL.out; omega
         have hd1 : decide ((i : Int) < (kb.length : Int)) = true := decide_eq_true hi1
         obtain ⟨adk, ek, hx0⟩ := Kd.at_string (Kd.R_reads' HKS.out).2.2 (i : Int) hi0 (by omega)
         subst ek
         simp only [Int.toNat_natCast] at hx0
         obtain ⟨s, hs⟩ : ∃ s, s = (namesD m)[i] := ⟨_, rfl⟩
         have hrd : rdOf ByteArray.empty (namesD m) (i : Int) = s := by unfold rdOf; rw [hs, Int.toNat_natCast, List.getD_eq_getElem?_getD, List.getElem?_eq_getElem hi]; rfl
         rw [hrd] at hx0
         have hso := HALL.out s (by rw [hs]; exact List.getElem_mem hi)
         unfold nameOK at hso
         simp only [Bool.and_eq_true, decide_eq_true_eq] at hso
         have HSS := Aside0.mk hso.1
         have HIT := Aside0.mk (show strconv_Itoa.f (valD m s) = some (itoaP (valD m s)) from if_pos hso.2)
         have HTK := Aside0.mk (show ((namesD m).take (i + 1)).map (pairOf m) = ((namesD m).take i).map (pairOf m) ++ [⟨s, itoaP (valD m s)⟩] by rw [List.take_succ_eq_append_getElem hi, List.map_append, ← hs]; rfl)
         obtain ⟨pre, hpre⟩ : ∃ pre, pre = ((namesD m).take i).map (pairOf m) := ⟨_, rfl⟩
         rw [← hpre] at HPR HTK
         have HPL := Aside0.mk (show pre.length ≤ 1000000 by rw [hpre, List.length_map, List.length_take]; have := HKN.out; have := HKL.out; omega)
         obtain ⟨Ap, cp, ep⟩ := Kd.R_slice HPR.out
         subst ep
         have hwi : wrap64 ((i : Int) + 1) = ((i + 1 : Nat) : Int) := by have := HKN.out; unfold wrap64; omega
         clear hs hrd hso hi hpre
         go_wp2_with (first | (at_lookup; refine look_step (g := gm) (n := l1.length) (m := m) (s := s) _ _ rfl rfl rfl rfl HSS.out (by first | exact HM.out | exact map_below HM.out (pw_below_drewN (Below.refl _ _) _)) ?_) | (go_at_call 26; go_loud (with_reducible refine (strconv_Itoa.calls (valD m s) _ _ (HV.out.below d18a) HIT.out).mono ?_); rintro e w7 ⟨rfl, hb⟩; have HB7 := Aside0.mk (below_step d18a hb); have HPR7 := Aside0.mk (Kd.R_below (by (with_reducible repeat (first | apply Kd.R_drewN | apply Kd.R_drew)); exact HPR.out) hb); have HKS7 := Aside0.mk (Kd.R_below (by (with_reducible repeat (first | apply Kd.R_drewN | apply Kd.R_drew)); exact HKS.out) hb); have HM7 := Aside0.mk (map_below (by first | exact HM.out | exact map_below HM.out (pw_below_drewN (Below.refl _ _) _)) hb); clear hb) | ((with_reducible refine gate_builtin (b := .append) (xs := #[.tmp 40, .tmp 47]) rfl ?_); at_builtin; go_loud (refine Kd.R_append k42 (w0 := w) w.heap.size rfl (.tmp 40) (.tmp 47) 37 42 (.agg #[.string ⟨#[]⟩, .string ⟨#[]⟩]) 32 rfl Tryd.underlying37 pair_info rfl (by decide) (by omega) (.slice Ap pre.length cp) pre (⟨s, itoaP (valD m s)⟩ : S42) [.string s, .string (itoaP (valD m s))] (fun _ => True) (fun _ => False) rfl rfl (k42_mkM _ _ _ _) (fun _ h => h.elim) (fun _ _ => trivial) HPR7.out HB7.out HB7.out.size (by have := HPL.out; omega) ?_); go_loud (intro v8 w8 ho8 hb8 hg8 _; have HPR8 := Aside0.mk ho8; have HB8 := Aside0.mk hb8; have HKS8 := Aside0.mk (Kd.R_over' HKS7.out (Kd.R_typed HPR7.out) (by decide) hg8); have HM8 := Aside0.mk (World.ownsMap.kept HM7.out hg8 (by_map_ne_R HM7.out HPR7.out)); clear ho8 hb8 hg8)))
         go_roundg d
         case measure => omega
         case rel => exact ⟨i + 1, (by first | rfl | (rw [hwi]) | (simp [hwi]; done) | (simp; done)), ⟨by have := HK.out; omega⟩, ⟨by rw [HTK.out]; exact HPR8.out⟩, HKS8, HM8, HB8⟩
     · intro x c kl y y2 w5 cnt1 hkey hlk hy hat hrg1 hlt hg1 hs1 hen
       obtain ⟨x', ex, rfl, hxl⟩ := Maps.keyOf_str Tryd.underlying9 hkey
       obtain rfl := encStr_inj ex
       have HRG5 := Aside0.mk hrg1
       have HCI5 := Aside0.mk (HCI.out.step hlk hat)
       have HKS5 := Aside0.mk (Kd.R_grown1 HKS.out rfl hg1 (by_iter_ne HRG.out (Kd.own_of_R HKS.out)))
       have HB5 := Aside0.mk (pw_below_grown HBB.out _ HBB.out.size hg1 (fun j hj => by cases hj; exact HRn.out))
       have HLT := Aside0.mk hlt
       replace hen : (Instr.entry (.pointer (some ⟨w2.heap.size, 0, none⟩))).run Tryd.prog w5 = .ok (.tuple #[.string (toB x), .int .i64 c]) w5 := hen
       clear hrg1 hlk hat hg1 hs1 hlt HRG HCI HKS HBB hkey hy hxl ex
       rw [show Go.Proofs.encStr x = Value.string (toB x) from rfl]
       obtain ⟨kb, hkb⟩ : ∃ kb, kb = ks.map toB := ⟨_, rfl⟩
       rw [← hkb] at HKS5
       have HKB := Aside0.mk hkb
       have HKBl := Aside0.mk (show kb.length = ks.length by rw [hkb, List.length_map])
       clear hkb
       obtain ⟨Ak, ck, ek⟩ := Kd.R_slice HKS5.out
       subst ek
       go_wp2_with ((with_reducible refine gate_builtin (b := .append) (xs := #[.tmp 28, .tmp 30]) rfl ?_); at_builtin; go_loud (refine Kd.R_append Kd.string (w0 := w) w.heap.size rfl (.tmp 28) (.tmp 30) 72 9 (.string ⟨#[]⟩) 16 rfl Tryd.underlying72 str_info rfl (by decide) (by omega) (.slice Ak kb.length ck) kb (toB x) [.string (toB x)] (fun _ => True) (fun _ => False) rfl (by first | (go_simp; done) | (go_simp; rfl)) rfl (fun _ h => h.elim) (fun _ _ => trivial) HKS5.out HB5.out HB5.out.size (by have := HKBl.out; have := HLK.out; have := HSZ.out; have := HL1.out; omega) ?_); intro v6 w6 ho6 hb6 hg6 _; have HRG6 := Aside0.mk (HRG5.out.kept hg6 (by_map_ne_row HRG5.out.owns (Kd.own_of_R HKS5.out)) (by_iter_ne HRG5.out (Kd.own_of_R HKS5.out))); have HB6 := Aside0.mk hb6; have HKS6 := Aside0.mk ho6; clear ho6 hb6 hg6)
       go_roundg k1
       case measure => omega
       case rel => exact ⟨ks ++ [x], _, cnt1, ⟨by have := HK.out; have := HLT.out; omega⟩, HRG6, HCI5, ⟨by rw [List.length_append]; have := HLK.out; have := HLT.out; simp only [List.length_cons, List.length_nil]; omega⟩, ⟨by rw [List.map_append, ← HKB.out]; exact HKS6.out⟩, HB6⟩
 · rw [if_neg h0] at h
   have c4 : (c != 0) = true := bne_iff_ne.mpr h0
   have c5 : (c == 0) = false := beq_eq_false_iff_ne.mpr h0
   clear h0
   simp only [Option.some.injEq, Prod.mk.injEq] at h
   obtain ⟨rfl, rfl⟩ := h
   go_enter Tryd.func18, Tryd.ntmps18
   go_wp2_with (go_at_call 56; go_loud (with_reducible refine (contact_check.calls k _ _ l0 _ _ l1 _ _ HR0.out HC0.out HR1.out HC1.out HCK.out).mono ?_); rintro e w1 ⟨rfl, hb⟩; have HB1 := Aside0.mk hb; clear hb)
   refine bodyPost_ret (results_list (rs := [.tmp 4, .tmp 5]) rfl (by simp) (.tmp (.tmp .nil))) rfl ?_
   exact ⟨_, rfl, Kd.R_nil _ _ _ _ _, by repeat (first | exact HB1.out | apply pw_below_drewN)⟩
end Go.Proofs.YtbngmblgkkdhpaaDoor.Q
