/- Sending: the reference's run is the simulation. -/
-- Made by wip/tools/claimp.py of this session's texts; Lean checks it.
import Derived.Test.YtbngmblgkkdhpaaC8SndC
import Derived.Test.YtbngmblgkkdhpaaC8Gs12
set_option linter.unusedVariables false
set_option linter.unusedSimpArgs false
namespace Go.Proofs.Ytbngmblgkkdhpaa.Q
open Go.RowKit Go.Proofs.YtbngmblgkkdhpaaW.PrintWords Go.Proofs.YtbngmblgkkdhpaaW.PrintLast Go.Proofs.YtbngmblgkkdhpaaW.PrintMore Go.Proofs.Ytbngmblgkkdhpaa.Base
namespace Snd
theorem lastAt_snoc (P : List S61) (x : S61) (nm : ByteArray) (k frm : Int) : lastAt (P ++ [x]) nm k frm = if x.f0 = nm ∧ x.f1 = k ∧ x.f3 = frm then some P.length else lastAt P nm k frm := by
  induction P with
  | nil => rfl
  | cons p r ih =>
    rw [List.cons_append]
    unfold lastAt
    rw [ih]
    by_cases hc : x.f0 = nm ∧ x.f1 = k ∧ x.f3 = frm
    · rw [if_pos hc, if_pos hc]; rfl
    · rw [if_neg hc, if_neg hc]
theorem lastD_take (P : List S61) (nm : ByteArray) (k frm : Int) : ∀ n, n ≤ P.length → lastD P nm k frm n = lastAt (P.take n) nm k frm
  | 0, _ => rfl
  | n + 1, hn => by
    have e : P.take (n + 1) = P.take n ++ [partAt P n] := by
      rw [List.take_succ_eq_append_getElem (by omega)]
      unfold partAt
      rw [List.getD_eq_getElem?_getD, List.getElem?_eq_getElem (by omega)]
      rfl
    rw [e, lastAt_snoc]
    unfold lastD
    rw [lastD_take P nm k frm n (by omega), List.length_take, Nat.min_eq_left (by omega)]
theorem lastD_is (P : List S61) (nm : ByteArray) (k frm : Int) : lastD P nm k frm P.length = lastAt P nm k frm := by
  rw [lastD_take P nm k frm P.length (Nat.le_refl _), List.take_length]
structure SimR (q : List S63) (st : RX) (s : St) : Prop where
  left : st.left = s.left
  done : st.done = s.done
  parts : st.parts = s.parts
  llen : s.left.length = q.length
  dlen : s.done.length = q.length
  nn : ∀ i, i < q.length → 0 ≤ s.left.getD i 0 ∧ s.left.getD i 0 ≤ (q.getD i z63).f1
  size : ∀ p ∈ s.parts, ∀ i, i < q.length → (q.getD i z63).f0 = p.f0 → 0 ≤ p.f4 ∧ p.f4 + s.left.getD i 0 ≤ (q.getD i z63).f1
  mono : Mono s.parts
/-- What has been told in a pass of what goes on ends at a moment at the latest. -/
def Ends (q : List S63) (k t : Int) (s : St) : Prop := ∀ p ∈ s.parts, p.f1 = k → ∀ i, i < q.length → (q.getD i z63).f0 = p.f0 → 0 < s.left.getD i 0 → p.f3 ≤ t
section
variable {q : List S63} {ord : List Nat} {bk : List Int} {st : RX} {s : St}
theorem firstTo_is {left : List Int} {t : Int} (hnn : ∀ i, i < q.length → 0 ≤ left.getD i 0) : ∀ n : Nat, n ≤ q.length → firstTo q left t n = match bestTo q left t n with
    | some i => (i : Int)
    | none => -1
  | 0, _ => rfl
  | n + 1, hn => by
    have ih := firstTo_is (t := t) hnn n (by omega)
    have h0 := hnn n (by omega)
    have el : rd left (n : Int) = left.getD n 0 := by unfold rd; rw [Int.toNat_natCast]
    unfold firstTo bestTo
    rw [item_at, el]
    by_cases ha : avail q left t n = true
    · have ha' := avail_iff.1 ha
      rw [if_pos ha, if_neg (by omega)]
      cases hb : bestTo q left t n with
      | none =>
        rw [hb] at ih
        simp only at ih ⊢
        rw [ih, if_pos (Or.inl (by omega))]
      | some b =>
        rw [hb] at ih
        simp only at ih ⊢
        rw [ih, item_at]
        by_cases hc : (q.getD b z63).f2 < (q.getD n z63).f2 ∨ (q.getD n z63).f2 = (q.getD b z63).f2 ∧ (q.getD n z63).f4 < (q.getD b z63).f4
        · rw [if_pos hc, if_pos (by omega)]
        · rw [if_neg hc, if_neg (by omega)]
    · have ha' : ¬ ((q.getD n z63).f3 ≤ t ∧ 0 < left.getD n 0) := fun h => ha (avail_iff.2 h)
      rw [if_neg ha, if_pos (by omega)]
      exact ih
theorem frstV_is (ho : Ord q ord) (h : SimR q st s) (t : Int) : frstV q st t = match top q ord s.left t with
    | some i => (i : Int)
    | none => -1 := by
  unfold frstV
  rw [h.left, firstTo_is (fun i hi => (h.nn i hi).1) q.length (Nat.le_refl _), bestTo_top ho]
theorem tellX_is (hg : Good q bk) (h : SimR q st s) {i : Nat} (hi : i < q.length) {k frm to_ n : Int} (hn : 0 ≤ n ∧ n ≤ s.left.getD i 0) (hE : Ends q k frm s) (hp : 0 < s.left.getD i 0) :
    tellX st.parts (q.getD i z63).f0 k frm to_ n = tell s.parts (q.getD i z63).f0 k frm to_ n := by
  rw [← tellR_eq h.mono (fun p hp' h0 h1 => hE p hp' h1 i hi h0.symm hp) to_ n, h.parts]
  unfold tellX tellR
  rw [lastD_is]
  have hsz := hg.size i
  cases hl : lastAt s.parts (q.getD i z63).f0 k frm with
  | none => rfl
  | some m =>
    -- the part is there, and has the item's name
    have hm : ∀ (P : List S61) (m : Nat), lastAt P (q.getD i z63).f0 k frm = some m → ∃ p, P[m]? = some p ∧ p.f0 = (q.getD i z63).f0 := by
      intro P
      induction P with
      | nil => intro m hm; cases hm
      | cons p r ih =>
        intro m hm
        unfold lastAt at hm
        cases hr : lastAt r (q.getD i z63).f0 k frm with
        | some m' =>
          rw [hr] at hm
          obtain rfl := Option.some.inj hm
          simpa using ih m' hr
        | none =>
          rw [hr] at hm
          by_cases hc : p.f0 = (q.getD i z63).f0 ∧ p.f1 = k ∧ p.f3 = frm
          · simp only [if_pos hc, Option.some.injEq] at hm
            subst hm
            exact ⟨p, rfl, hc.1⟩
          · simp only [if_neg hc] at hm
            cases hm
    obtain ⟨p, h1, h2⟩ := hm _ m hl
    have h3 := h.size p (List.mem_of_getElem? h1) i hi h2.symm
    simp only [h1]
    have ep : partAt s.parts m = p := by
      unfold partAt
      rw [List.getD_eq_getElem?_getD, h1]
      rfl
    rw [ep]
    unfold partSize partTo upd
    rw [w64 (by omega) (by omega)]
/-- One sending. -/
theorem send_sim (hg : Good q bk) (h : SimR q st s) {i : Nat} (hi : i < q.length) {k frm to_ n : Int} (hn : 1 ≤ n ∧ n ≤ s.left.getD i 0) (hE : Ends q k frm s) (hft : frm ≤ to_) (hr : s.parts.length < 1000000000) :
    sendOK q st i ∧ SimR q (sendX q st i k frm to_ n) (give q s i k frm to_ n) := by
  have hsz := hg.size i
  have hnn := h.nn i hi
  have el : rd st.left (i : Int) = s.left.getD i 0 := by unfold rd; rw [Int.toNat_natCast, h.left]
  have ht := tellX_is (frm := frm) (to_ := to_) hg h hi ⟨by omega, hn.2⟩ hE (by omega)
  have hli : (s.left.set i (s.left.getD i 0 - n)).getD i 0 = s.left.getD i 0 - n := getD_set_self (by rw [h.llen]; exact hi) _
  refine ⟨⟨⟨by omega, by omega⟩, by rw [h.left]; exact h.llen, by rw [h.done]; exact h.dlen, by rw [h.parts]; exact hr⟩, ?_⟩
  unfold sendX give
  rw [el, item_at, ht, w64 (by omega) (by omega), Int.toNat_natCast, h.left, h.done]
  refine ⟨rfl, rfl, rfl, by simp [h.llen], ?_, fun j hj => ?_, fun p hp j hj hnm => ?_, Mono.tell h.mono (fun p hp h0 h1 => hE p hp h1 i hi h0.symm (by omega)) hft⟩
  · show (if s.left.getD i 0 - n = 0 then s.done.set i to_ else s.done).length = _
    split <;> simp [h.dlen]
  · show 0 ≤ (s.left.set i (s.left.getD i 0 - n)).getD j 0 ∧ _
    by_cases e : i = j
    · subst e; rw [hli]; omega
    · rw [getD_set_ne e]; exact h.nn j hj
  · have hp' : p ∈ tell s.parts (q.getD i z63).f0 k frm to_ n := hp
    have hle : (s.left.set i (s.left.getD i 0 - n)).getD j 0 ≤ s.left.getD j 0 := by
      by_cases e : i = j
      · subst e; rw [hli]; omega
      · rw [getD_set_ne e]; omega
    show 0 ≤ p.f4 ∧ p.f4 + (s.left.set i (s.left.getD i 0 - n)).getD j 0 ≤ _
    rcases tell_mem hp' with hp' | ⟨g0, g1, g2, g3⟩
    · have := h.size p hp' j hj hnm
      omega
    · have hij : j = i := hg.dist.inj j i hj hi (hnm.trans g0)
      subst hij
      rw [hli]
      rcases g3 with ⟨g3, g4⟩ | ⟨x, hx, x0, x1, x2, x3, x4⟩
      · omega
      · have := h.size x hx j hj x0.symm
        omega
theorem give_other {i : Nat} {k frm to_ n : Int} {p : S61} (hp : p ∈ (give q s i k frm to_ n).parts) : p ∈ s.parts ∨ (p.f0 = (q.getD i z63).f0 ∧ p.f1 = k ∧ p.f3 = to_) := by
  rcases tell_mem (show p ∈ tell s.parts (q.getD i z63).f0 k frm to_ n from hp) with h | ⟨h0, h1, h2, _⟩
  · exact Or.inl h
  · exact Or.inr ⟨h0, h1, h2⟩
theorem give_left_le (h : s.left.length = q.length) {i : Nat} (hi : i < q.length) {k frm to_ n : Int} (hn : 0 ≤ n) (j : Nat) : (give q s i k frm to_ n).left.getD j 0 ≤ s.left.getD j 0 := by
  show (s.left.set i (s.left.getD i 0 - n)).getD j 0 ≤ _
  by_cases e : i = j
  · subst e; rw [getD_set_self (by rw [h]; exact hi)]; omega
  · rw [getD_set_ne e]; omega
/-- In another pass nothing is told. -/
theorem Ends.other {k k' t frm to_ n : Int} {i : Nat} (h : Ends q k t s) (hk : k' ≠ k) (hl : s.left.length = q.length) (hi : i < q.length) (hn : 0 ≤ n) : Ends q k t (give q s i k' frm to_ n) := fun p hp h1 j hj hnm hpos => by
  rcases give_other hp with hp | ⟨_, g1, _⟩
  · exact h p hp h1 j hj hnm (by have := give_left_le (k := k') (frm := frm) (to_ := to_) hl hi hn j; omega)
  · exact absurd (g1.symm.trans h1) hk
/-- What one pass takes. -/
theorem room_sim (hg : Good q bk) (ho : Ord q ord) {t k : Int} (ht : 0 ≤ t ∧ t ≤ 1000000000000) : ∀ (F : Nat) {st : RX} {s : St} (room : Int), 0 ≤ room → room ≤ 1000000 → SimR q st s → Ends q k t s → (cnt s.left + 1 ≤ F ∨ room ≤ 0) → phi s < 1000000000 →
    ∃ st' b, (∀ K, F + 1 ≤ K → roomX q k t K st room = some (st', b)) ∧ SimR q st' (serve q ord t k F s room) ∧ (b = true → top q ord (serve q ord t k F s room).left t = none) ∧
      (∀ p ∈ (serve q ord t k F s room).parts, p ∈ s.parts ∨ (p.f1 = k ∧ p.f3 = t + 1)) ∧ (∀ j, (serve q ord t k F s room).left.getD j 0 ≤ s.left.getD j 0) := by
  intro F
  induction F with
  | zero =>
    intro st s room h0 h1 h hE hF hB
    refine ⟨st, false, fun K hK => ?_, h, (fun hc => by cases hc), fun p hp => Or.inl hp, fun j => Int.le_refl _⟩
    obtain ⟨K, rfl⟩ : ∃ K', K = K' + 1 := ⟨K - 1, by omega⟩
    unfold roomX
    rw [if_neg (by omega)]
  | succ F ih =>
    intro st s room h0 h1 h hE hF hB
    unfold serve
    by_cases hr : room ≤ 0
    · rw [if_pos hr]
      refine ⟨st, false, fun K hK => ?_, h, (fun hc => by cases hc), fun p hp => Or.inl hp, fun j => Int.le_refl _⟩
      obtain ⟨K, rfl⟩ : ∃ K', K = K' + 1 := ⟨K - 1, by omega⟩
      unfold roomX
      rw [if_neg (by omega)]
    · rw [if_neg hr]
      have hOK : firstOK q st := ⟨by rw [h.left]; exact h.llen, by have := hg.many; omega⟩
      have hV := frstV_is ho h t
      cases htop : top q ord s.left t with
      | none =>
        rw [htop] at hV
        simp only at hV ⊢
        refine ⟨st, true, fun K hK => ?_, h, fun _ => htop, fun p hp => Or.inl hp, fun j => Int.le_refl _⟩
        obtain ⟨K, rfl⟩ : ∃ K', K = K' + 1 := ⟨K - 1, by omega⟩
        unfold roomX
        rw [if_pos (by omega), if_pos hOK, hV, if_pos (by omega)]
      | some i =>
        rw [htop] at hV
        simp only at hV ⊢
        obtain ⟨hp, _, hmem⟩ := top_pos htop
        have hi := (ho.all i).1 hmem
        have hL : rd st.left (i : Int) = s.left.getD i 0 := by unfold rd; rw [Int.toNat_natCast, h.left]
        have hn : 1 ≤ min room (s.left.getD i 0) ∧ min room (s.left.getD i 0) ≤ s.left.getD i 0 := by omega
        have hph : s.parts.length < 1000000000 := by unfold phi at hB; omega
        obtain ⟨g1, g2⟩ := send_sim (k := k) (frm := t) (to_ := t + 1) hg h hi hn hE (by omega) hph
        have hpart : ∀ p ∈ (give q s i k t (t + 1) (min room (s.left.getD i 0))).parts, p ∈ s.parts ∨ (p.f1 = k ∧ p.f3 = t + 1) := fun p hp => by
          rcases give_other hp with hp | ⟨_, h1, h2⟩
          · exact Or.inl hp
          · exact Or.inr ⟨h1, h2⟩
        have hle := give_left_le (k := k) (frm := t) (to_ := t + 1) h.llen hi (n := min room (s.left.getD i 0)) (by omega)
        by_cases hm : room ≤ s.left.getD i 0
        · have e0 : room - min room (s.left.getD i 0) = 0 := by omega
          rw [e0, serve_zero (Int.le_refl 0)]
          refine ⟨_, false, fun K hK => ?_, g2, (fun hc => by cases hc), hpart, hle⟩
          obtain ⟨K, rfl⟩ : ∃ K', K = K' + 1 := ⟨K - 1, by omega⟩
          unfold roomX
          rw [if_pos (by omega), if_pos hOK, hV, if_neg (by omega), if_pos g1, hL, mn_min, w64 (x := t + 1) (by omega) (by omega), w64 (x := room - _) (by omega) (by omega), e0]
          obtain ⟨K, rfl⟩ : ∃ K', K = K' + 1 := ⟨K - 1, by omega⟩
          unfold roomX
          rw [if_neg (by omega)]
        · have hB' : phi (give q s i k t (t + 1) (min room (s.left.getD i 0))) < 1000000000 := by
            have h2 := cnt_set_zero hp
            have hl := tell_len s.parts (q.getD i z63).f0 k t (t + 1) (min room (s.left.getD i 0))
            rw [show min room (s.left.getD i 0) = s.left.getD i 0 by omega] at hl ⊢
            unfold phi give at *
            simp only
            rw [Int.sub_self]
            omega
          have hcnt : cnt (give q s i k t (t + 1) (min room (s.left.getD i 0))).left + 1 ≤ F ∨ room - min room (s.left.getD i 0) ≤ 0 := by
            left
            show cnt (s.left.set i (s.left.getD i 0 - min room (s.left.getD i 0))) + 1 ≤ F
            rw [show min room (s.left.getD i 0) = s.left.getD i 0 by omega, Int.sub_self]
            have := cnt_set_zero hp
            omega
          have hE' : Ends q k t (give q s i k t (t + 1) (min room (s.left.getD i 0))) := fun p hp' h1 j hj hnm hpos => by
            have hle' := hle j
            rcases give_other hp' with hp' | ⟨g0, _, _⟩
            · exact hE p hp' h1 j hj hnm (by omega)
            · have hij : j = i := hg.dist.inj j i hj hi (hnm.trans g0)
              subst hij
              have e : (give q s j k t (t + 1) (min room (s.left.getD j 0))).left.getD j 0 = 0 := by
                show (s.left.set j (s.left.getD j 0 - min room (s.left.getD j 0))).getD j 0 = 0
                rw [getD_set_self (by rw [h.llen]; exact hj)]
                omega
              omega
          obtain ⟨st', b, r1, r2, r3, r4, r5⟩ := ih (room - min room (s.left.getD i 0)) (by omega) (by omega) g2 hE' hcnt hB'
          refine ⟨st', b, fun K hK => ?_, r2, r3, fun p hp => ?_, fun j => by have := hle j; have := r5 j; omega⟩
          · obtain ⟨K, rfl⟩ : ∃ K', K = K' + 1 := ⟨K - 1, by omega⟩
            unfold roomX
            rw [if_pos (by omega), if_pos hOK, hV, if_neg (by omega), if_pos g1, hL, mn_min, w64 (x := t + 1) (by omega) (by omega), w64 (x := room - _) (by omega) (by omega)]
            exact r1 K (by omega)
          · rcases r4 p hp with hp | hp
            · exact hpart p hp
            · exact Or.inr hp
end
/-- The rates are those of the stretches. -/
def RtOK (bk : List Int) (ss : Int → List S81) (rt : Int → Int → Option Int) : Prop := ∀ b ∈ bk, ∀ t, 0 ≤ t → t ≤ 1000000000000 → rt b t = some (rS (ss b) t)
def Fin_ (s : St) (t : Int) : Prop := ∀ p ∈ s.parts, p.f3 ≤ t
section
variable {q : List S63} {ord : List Nat} {bk : List Int} {ss : Int → List S81} {N : Int → Nat}
theorem one_sim (hg : Good q bk) (ho : Ord q ord) (hw : Ways bk ss) {t : Int} (ht : 0 ≤ t ∧ t ≤ 1000000000000) : ∀ (r : List Int) {st : RX} {s : St}, (∀ k ∈ r, k ∈ bk) → r.Nodup → SimR q st s → (∀ k ∈ r, Ends q k t s) → phi s + r.length < 1000000000 →
    ∃ st', (∀ K rt, RtOK bk ss rt → q.length + 2 ≤ K → oneX q rt K t r st = some st') ∧ SimR q st' (tickA q ord t (actOf r ss t) s) ∧ (∀ p ∈ (tickA q ord t (actOf r ss t) s).parts, p ∈ s.parts ∨ p.f3 = t + 1)
  | [], st, s, _, _, h, _, _ => ⟨st, fun K rt _ _ => rfl, h, fun p hp => Or.inl hp⟩
  | k :: r, st, s, hk, hnd, h, hE, hB => by
    have hkb := hk k List.mem_cons_self
    obtain ⟨b1, b2⟩ := rS_bd (t := t) (hw.rate k hkb) (by omega)
    rw [List.nodup_cons] at hnd
    simp only [List.length_cons] at hB
    have hk' : ∀ x ∈ r, x ∈ bk := fun x hx => hk x (List.mem_cons_of_mem _ hx)
    have hc : cnt s.left + 1 ≤ q.length + 1 ∨ rS (ss k) t ≤ 0 := Or.inl (by have := cnt_le s.left; rw [h.llen] at this; omega)
    obtain ⟨st1, b, r1, r2, r3, r4, r5⟩ := room_sim hg ho ht (k := k) (q.length + 1) (rS (ss k) t) b1 b2 h (hE k List.mem_cons_self) hc (by omega)
    have hph := serve_phi (q := q) (ord := ord) (t := t) (k := k) (q.length + 1) s (rS (ss k) t)
    have hp2 : (if 0 < rS (ss k) t then 1 else 0) ≤ 1 := by split <;> omega
    have hE' : ∀ k' ∈ r, Ends q k' t (serve q ord t k (q.length + 1) s (rS (ss k) t)) := fun k' hk'' p hp h1 j hj hnm hpos => by
      rcases r4 p hp with hp | ⟨h2, _⟩
      · exact hE k' (List.mem_cons_of_mem _ hk'') p hp h1 j hj hnm (by have := r5 j; omega)
      · exact absurd (by rw [← h2, h1]; exact hk'') hnd.1
    obtain ⟨st2, r6, r7, r8⟩ := one_sim hg ho hw ht r hk' hnd.2 r2 hE' (by omega)
    -- with a rate of 0 nothing is done
    have hfold : tickA q ord t (actOf (k :: r) ss t) s = tickA q ord t (actOf r ss t) (serve q ord t k (q.length + 1) s (rS (ss k) t)) := by
      rw [actOf_cons]
      by_cases h0 : 0 < rS (ss k) t
      · rw [if_pos h0]; rfl
      · rw [if_neg h0, serve_zero (by omega)]
    rw [hfold]
    cases b with
    | true =>
      have e := tickA_none (r3 rfl) (actOf r ss t)
      rw [e]
      refine ⟨st1, fun K rt hrt hK => ?_, r2, fun p hp => ?_⟩
      · unfold oneX
        rw [hrt k hkb t ht.1 ht.2, Option.bind_some, r1 K (by omega), Option.bind_some]
        rfl
      · rcases r4 p hp with hp | hp
        · exact Or.inl hp
        · exact Or.inr hp.2
    | false =>
      refine ⟨st2, fun K rt hrt hK => ?_, r7, fun p hp => ?_⟩
      · unfold oneX
        rw [hrt k hkb t ht.1 ht.2, Option.bind_some, r1 K (by omega), Option.bind_some]
        exact r6 K rt hrt hK
      · rcases r8 p hp with hp | hp
        · rcases r4 p hp with hp | hp
          · exact Or.inl hp
          · exact Or.inr hp.2
        · exact Or.inr hp
theorem sendAll_sim (hg : Good q bk) (hw : Ways bk ss) {i : Nat} (hi : i < q.length) {t to_ n : Int} (ht : 0 ≤ t ∧ t ≤ 1000000000000) (hto : t ≤ to_) (hn : 1 ≤ n) : ∀ (r : List Int) {st : RX} {s : St}, (∀ k ∈ r, k ∈ bk) → r.Nodup → SimR q st s → (∀ k ∈ r, Ends q k t s) → n * tot (actOf r ss t) ≤ s.left.getD i 0 → s.parts.length + r.length < 1000000000 →
    ∃ st', (∀ rt, RtOK bk ss rt → sendAllX q rt i t to_ n r st = some st') ∧ SimR q st' (giveAll q s i (actOf r ss t) t to_ n) ∧ (∀ p ∈ (giveAll q s i (actOf r ss t) t to_ n).parts, p ∈ s.parts ∨ p.f3 = to_)
  | [], st, s, _, _, h, _, _, _ => ⟨st, fun rt _ => rfl, h, fun p hp => Or.inl hp⟩
  | k :: r, st, s, hk, hnd, h, hE, hl, hB => by
    have hkb := hk k List.mem_cons_self
    obtain ⟨b1, b2⟩ := rS_bd (t := t) (hw.rate k hkb) (by omega)
    rw [List.nodup_cons] at hnd
    simp only [List.length_cons] at hB
    have hk' : ∀ x ∈ r, x ∈ bk := fun x hx => hk x (List.mem_cons_of_mem _ hx)
    rw [actOf_cons] at hl ⊢
    by_cases h0 : 0 < rS (ss k) t
    · rw [if_pos h0, tot_cons, Int.mul_add] at hl
      rw [if_pos h0]
      simp only at hl
      have htt := tot_nonneg (A := actOf r ss t) actOf_pos
      have hnr : 0 < n * rS (ss k) t := Int.mul_pos (by omega) h0
      have hnt : 0 ≤ n * tot (actOf r ss t) := Int.mul_nonneg (by omega) htt
      have hsz := hg.size i
      have hnn := h.nn i hi
      obtain ⟨g1, g2⟩ := send_sim (k := k) (frm := t) (to_ := to_) (n := n * rS (ss k) t) hg h hi ⟨by omega, by omega⟩ (hE k List.mem_cons_self) hto (by omega)
      have htl := tell_len s.parts (q.getD i z63).f0 k t to_ (n * rS (ss k) t)
      have hE' : ∀ k' ∈ r, Ends q k' t (give q s i k t to_ (n * rS (ss k) t)) := fun k' hk'' => (hE k' (List.mem_cons_of_mem _ hk'')).other (fun e => hnd.1 (e ▸ hk'')) h.llen hi (by omega)
      obtain ⟨st', r1, r2, r3⟩ := sendAll_sim hg hw hi ht hto hn r (s := give q s i k t to_ (n * rS (ss k) t)) hk' hnd.2 g2 hE' (by
        show n * tot (actOf r ss t) ≤ (s.left.set i (s.left.getD i 0 - n * rS (ss k) t)).getD i 0
        rw [getD_set_self (by rw [h.llen]; exact hi)]
        omega) (by show (tell s.parts (q.getD i z63).f0 k t to_ (n * rS (ss k) t)).length + _ < _; omega)
      refine ⟨st', fun rt hrt => ?_, r2, fun p hp => ?_⟩
      · unfold sendAllX
        rw [hrt k hkb t ht.1 ht.2, Option.bind_some, if_pos (by omega), if_pos g1, w64 (x := n * rS (ss k) t) (by omega) (by omega)]
        exact r1 rt hrt
      · rcases r3 p hp with hp | hp
        · rcases give_other hp with hp | hp
          · exact Or.inl hp
          · exact Or.inr hp.2.2
        · exact Or.inr hp
    · rw [if_neg h0] at hl ⊢
      obtain ⟨st', r1, r2, r3⟩ := sendAll_sim hg hw hi ht hto hn r hk' hnd.2 h (fun k' hk'' => hE k' (List.mem_cons_of_mem _ hk'')) hl (by omega)
      refine ⟨st', fun rt hrt => ?_, r2, r3⟩
      unfold sendAllX
      rw [hrt k hkb t ht.1 ht.2, Option.bind_some, if_neg (by omega)]
      exact r1 rt hrt
theorem sumX_is (hw : Ways bk ss) {t : Int} (ht : 0 ≤ t ∧ t ≤ 1000000000000) {rt : Int → Int → Option Int} (hrt : RtOK bk ss rt) : ∀ (r : List Int) (all : Int), (∀ k ∈ r, k ∈ bk) → 0 ≤ all → all + 1000000 * r.length ≤ 1000000000000 →
    sumX rt t r all = some (all + tot (actOf r ss t))
  | [], all, _, _, _ => by simp [sumX, actOf, tot]
  | k :: r, all, hk, h0, hb => by
    have hkb := hk k List.mem_cons_self
    obtain ⟨b1, b2⟩ := rS_bd (t := t) (hw.rate k hkb) (by omega)
    simp only [List.length_cons] at hb
    unfold sumX
    rw [hrt k hkb t ht.1 ht.2, Option.bind_some, w64 (by omega) (by omega), sumX_is hw ht hrt r (all + rS (ss k) t) (fun x hx => hk x (List.mem_cons_of_mem _ hx)) (by omega) (by omega), actOf_cons]
    by_cases h : 0 < rS (ss k) t
    · rw [if_pos h, tot_cons, Int.add_assoc]
    · rw [if_neg h, show rS (ss k) t = 0 by omega, Int.add_zero]
theorem ends_fin {s : St} {t : Int} (h : Fin_ s t) (k : Int) : Ends q k t s := fun p hp _ _ _ _ _ => h p hp
theorem stretchRX_sim (hg : Good q bk) (ho : Ord q ord) (hw : Ways bk ss) (hnd : bk.Nodup) (hbl : bk.length ≤ 1000) (hN : Rest (actOf bk ss) N) {A : List (Int × Int)} {to_ : Int} (hto : to_ ≤ 1000000000000) (hAnd : (A.map (·.1)).Nodup) :
    ∀ (d : Nat) (a : Int) {st : RX} {s : St}, 0 ≤ a → (to_ - a).toNat ≤ d → (∀ t, a ≤ t → t < to_ → actOf bk ss t = A) → (∀ t, a ≤ t → t < to_ → ∀ i : Nat, (q.getD i z63).f3 ≤ t ↔ (q.getD i z63).f3 ≤ a) → SimR q st s → Fin_ s a → phi s + N a + 2000 ≤ 1000000000 →
    ∃ st', (∀ K rt, RtOK bk ss rt → d + q.length + 4 ≤ K → stretchRX q bk rt (tot A) to_ K st a = some st') ∧ SimR q st' (sim q ord (actOf bk ss) a (to_ - a).toNat s) ∧ Fin_ (sim q ord (actOf bk ss) a (to_ - a).toNat s) (max a to_) := by
  intro d
  induction d with
  | zero =>
    intro a st s h0 hd hact hrd h hF hB
    rw [show (to_ - a).toNat = 0 by omega, show max a to_ = a by omega]
    refine ⟨st, fun K rt _ hK => ?_, h, hF⟩
    obtain ⟨K, rfl⟩ : ∃ K', K = K' + 1 := ⟨K - 1, by omega⟩
    unfold stretchRX
    rw [if_neg (by omega)]
  | succ d ih =>
    intro a st s h0 hd hact hrd h hF hB
    by_cases hlt : a < to_
    · have hmx : max a to_ = to_ := by omega
      have hFt : Fin_ s to_ := fun p hp => by have := hF p hp; omega
      have hAe := hact a (Int.le_refl _) hlt
      have hA : ∀ kr ∈ A, kr.1 ∈ bk ∧ 0 < kr.2 ∧ kr.2 ≤ 1000000 := fun kr hkr => by
        rw [← hAe] at hkr
        obtain ⟨k, rr⟩ := kr
        have h1 := actOf_pos _ hkr
        obtain ⟨h2, h3⟩ := actOf_mem hkr
        exact ⟨h2, h1, by simp only; rw [h3]; exact (rS_bd (hw.rate k h2) (by omega)).2⟩
      have hA0 : ∀ kr ∈ A, 0 < kr.2 := fun kr hkr => (hA kr hkr).2.1
      have htle := tot_le (A := A) (fun kr hkr => (hA kr hkr).2.2)
      have hAl : A.length ≤ 1000 := by have := actOf_len bk ss a; rw [hAe] at this; omega
      by_cases he : A = []
      · have e : sim q ord (actOf bk ss) a (to_ - a).toNat s = s := sim_idle _ _ (fun j hj => Or.inl (by rw [hact _ (by omega) (by omega), he]))
        rw [e, hmx]
        refine ⟨st, fun K rt _ hK => ?_, h, hFt⟩
        obtain ⟨K, rfl⟩ : ∃ K', K = K' + 1 := ⟨K - 1, by omega⟩
        unfold stretchRX
        rw [if_pos hlt, he, if_neg (by simp [tot])]
      · have htp := tot_pos hA0 he
        have hOK : firstOK q st := ⟨by rw [h.left]; exact h.llen, by have := hg.many; omega⟩
        have hV := frstV_is ho h a
        cases htop : top q ord s.left a with
        | none =>
          rw [htop] at hV
          simp only at hV
          have e : sim q ord (actOf bk ss) a (to_ - a).toNat s = s := sim_idle _ _ (fun j hj => Or.inr (by
            rw [top_none ho] at htop ⊢
            intro i hi
            have h1 := htop i hi
            rw [← Bool.not_eq_true, avail_iff] at h1 ⊢
            rw [hrd _ (by omega) (by omega)]
            exact h1))
          rw [e, hmx]
          refine ⟨st, fun K rt _ hK => ?_, h, hFt⟩
          obtain ⟨K, rfl⟩ : ∃ K', K = K' + 1 := ⟨K - 1, by omega⟩
          unfold stretchRX
          rw [if_pos hlt, if_pos (by omega), if_pos hOK, hV, if_pos (by omega)]
        | some i =>
          rw [htop] at hV
          simp only at hV
          obtain ⟨hp, _, hmem⟩ := top_pos htop
          have hi := (ho.all i).1 hmem
          have hL : rd st.left (i : Int) = s.left.getD i 0 := by unfold rd; rw [Int.toNat_natCast, h.left]
          have hsz := hg.size i
          have hnn := h.nn i hi
          have hdv : 0 ≤ s.left.getD i 0 / tot A := Int.ediv_nonneg (by omega) (by omega)
          have hdm := Int.ediv_mul_le (s.left.getD i 0) (show tot A ≠ 0 by omega)
          have hdl : s.left.getD i 0 / tot A ≤ s.left.getD i 0 := Int.ediv_le_self _ (by omega)
          obtain ⟨v, hv⟩ : ∃ v, v = s.left.getD i 0 / tot A := ⟨_, rfl⟩
          rw [← hv] at hdv hdm hdl
          have hS : stepR q st a to_ (tot A) = min (to_ - a) v := by
            unfold stepR
            rw [hV, hL, w64 (x := to_ - a) (by omega) (by omega), Int.tdiv_eq_ediv_of_nonneg (by omega), ← hv, w64 (x := v) (by omega) (by omega), mn_min]
          have hph : s.parts.length + bk.length < 1000000000 := by unfold phi at hB; omega
          by_cases hn : 0 < v
          · obtain ⟨m, hm⟩ : ∃ m : Nat, (m : Int) = min (to_ - a) v := ⟨(min (to_ - a) v).toNat, by omega⟩
            have hml : (m : Int) * tot A ≤ s.left.getD i 0 := by
              have h1 : (m : Int) * tot A ≤ v * tot A := Int.mul_le_mul_of_nonneg_right (by omega) (by omega)
              omega
            obtain ⟨st1, r1, r2, r2'⟩ := sendAll_sim (t := a) (to_ := a + m) (n := m) hg hw hi ⟨h0, by omega⟩ (by omega) (by omega) bk (fun k hk => hk) hnd h (fun k _ => ends_fin hF k) (by rw [hAe]; exact hml) hph
            rw [hAe] at r2 r2'
            have hj := sim_jump (act := actOf bk ss) hA0 he hAnd htop m (by omega) (fun j hj => hact _ (by omega) (by omega)) (fun j hj i => hrd _ (by omega) (by omega) i) hml
            have hph2 := sim_phi (q := q) (ord := ord) hN m a s h0
            rw [hj] at hph2
            have hF2 : Fin_ (giveAll q s i A a (a + m) m) (a + m) := fun p hp => by
              rcases r2' p hp with hp | hp
              · have := hF p hp; omega
              · omega
            obtain ⟨st2, r3, r4, r5⟩ := ih (a + m) (by omega) (by omega) (fun t h1 h2 => hact t (by omega) h2) (fun t h1 h2 i => (hrd t (by omega) h2 i).trans (hrd (a + m) (by omega) (by omega) i).symm) r2 hF2 (by omega)
            have e : (to_ - a).toNat = m + (to_ - (a + m)).toNat := by omega
            rw [e, sim_add, hj, hmx]
            refine ⟨st2, fun K rt hrt hK => ?_, r4, by rw [show max (a + (m : Int)) to_ = to_ by omega] at r5; exact r5⟩
            obtain ⟨K, rfl⟩ : ∃ K', K = K' + 1 := ⟨K - 1, by omega⟩
            unfold stretchRX
            rw [if_pos hlt, if_pos (by omega), if_pos hOK, hV, if_neg (by omega), if_pos (by omega), hS, if_neg (by omega), ← hm, w64 (x := a + m) (by omega) (by omega), r1 rt hrt, Option.bind_some]
            exact r3 K rt hrt (by omega)
          · have e0 : min (to_ - a) v = 0 := by omega
            obtain ⟨st1, r1, r2, r2'⟩ := one_sim hg ho hw (t := a) ⟨h0, by omega⟩ bk (fun k hk => hk) hnd h (fun k _ => ends_fin hF k) (by omega)
            have hph2 := sim_phi (q := q) (ord := ord) hN 1 a s h0
            rw [sim_one] at hph2
            have hF2 : Fin_ (tickA q ord a (actOf bk ss a) s) (a + 1) := fun p hp => by
              rcases r2' p hp with hp | hp
              · have := hF p hp; omega
              · omega
            obtain ⟨st2, r3, r4, r5⟩ := ih (a + 1) (by omega) (by omega) (fun t h1 h2 => hact t (by omega) h2) (fun t h1 h2 i => (hrd t (by omega) h2 i).trans (hrd (a + 1) (by omega) (by omega) i).symm) r2 hF2 (by simp only [Int.natCast_one] at hph2; omega)
            have e : (to_ - a).toNat = (to_ - (a + 1)).toNat + 1 := by omega
            rw [e, hmx]
            refine ⟨st2, fun K rt hrt hK => ?_, r4, by rw [show max (a + (1 : Int)) to_ = to_ by omega] at r5; exact r5⟩
            obtain ⟨K, rfl⟩ : ∃ K', K = K' + 1 := ⟨K - 1, by omega⟩
            unfold stretchRX
            rw [if_pos hlt, if_pos (by omega), if_pos hOK, hV, if_neg (by omega), if_pos (by omega), hS, if_pos (by omega), r1 K rt hrt (by omega), Option.bind_some, w64 (x := a + 1) (by omega) (by omega)]
            exact r3 K rt hrt (by omega)
    · rw [show (to_ - a).toNat = 0 by omega, show max a to_ = a by omega]
      refine ⟨st, fun K rt _ hK => ?_, h, hF⟩
      obtain ⟨K, rfl⟩ : ∃ K', K = K' + 1 := ⟨K - 1, by omega⟩
      unfold stretchRX
      rw [if_neg hlt]
/-- From moment to_ moment. -/
theorem follow_sim (hg : Good q bk) (ho : Ord q ord) (hw : Ways bk ss) (hbk : bk.Pairwise (· < ·)) (hbl : bk.length ≤ 1000) {ts : List Int} (hm : Moms q bk ss ts) (hN : Rest (actOf bk ss) N) {u : Int} (hu : 0 ≤ u ∧ u ≤ 1000000000000) :
    ∀ (r : List Int) (i : Nat) (a : Int) {st : RX} {s : St}, ts.drop i = a :: r → u ∈ a :: r → SimR q st s → Fin_ s a → phi s + N a + 2000 ≤ 1000000000 →
    ∃ st', (∀ K rt, RtOK bk ss rt → u.toNat + q.length + 4 ≤ K → followGo q bk rt K u (a :: r) st = some st') ∧ SimR q st' (sim q ord (actOf bk ss) a (u - a).toNat s)
  | [], i, a, st, s, har, huin, h, hF, hB => by
    obtain rfl : u = a := by simpa using huin
    rw [show (u - u).toNat = 0 by omega]
    exact ⟨st, fun K rt _ _ => rfl, h⟩
  | b :: r, i, a, st, s, har, huin, h, hF, hB => by
    obtain ⟨e1, e2, e3⟩ := rd_drop har
    obtain ⟨f1, f2, f3⟩ := rd_drop e3
    have hpw := hm.up
    rw [← List.take_append_drop i ts, har] at hpw
    have hpw := (List.pairwise_append.1 hpw).2.1
    have hab := (List.pairwise_cons.1 hpw).1 b List.mem_cons_self
    have ha := hm.bd a (List.mem_of_getElem? e2)
    by_cases hbu : b ≤ u
    · have huin' : u ∈ b :: r := by
        rcases List.mem_cons.1 huin with rfl | h
        · omega
        · exact h
      have hx : ∀ t : Int, a ≤ t → t < b → ∀ x ∈ ts, x ≤ a ∨ t < x := fun t h1 h2 x hx => by
        have := next_none hm.up e2 f2 hx
        omega
      have same : ∀ t : Int, a ≤ t → (∀ x ∈ ts, x ≤ a ∨ t < x) → actOf bk ss t = actOf bk ss a ∧ ∀ j : Nat, (q.getD j z63).f3 ≤ t ↔ (q.getD j z63).f3 ≤ a := fun t hat hx => by
        refine ⟨actOf_same (fun k hk => rS_same (fun sg hsg => ?_)), fun j => ?_⟩
        · obtain ⟨g1, g2⟩ := hm.way k hk sg hsg
          have := hx _ g1
          have := hx _ g2
          exact ⟨by omega, by omega⟩
        · by_cases hj : j < q.length
          · have := hx _ (hm.item j hj)
            omega
          · rw [List.getD_eq_getElem?_getD, List.getElem?_eq_none (by omega)]
            show (0 : Int) ≤ t ↔ (0 : Int) ≤ a
            omega
      obtain ⟨st1, r1, r2, r2'⟩ := stretchRX_sim (A := actOf bk ss a) (to_ := b) hg ho hw (hbk.imp (fun {x y} hxy e => by omega)) hbl hN (by omega) (actOf_nodup hbk) (b - a).toNat a ha (Nat.le_refl _) (fun t h1 h2 => (same t h1 (hx t h1 h2)).1) (fun t h1 h2 j => (same t h1 (hx t h1 h2)).2 j) h hF hB
      have hph := sim_phi (q := q) (ord := ord) hN (b - a).toNat a s ha
      rw [show a + ((b - a).toNat : Int) = b by omega] at hph
      rw [show max a b = b by omega] at r2'
      obtain ⟨st2, r3, r4⟩ := follow_sim hg ho hw hbk hbl hm hN hu r (i + 1) b e3 huin' r2 r2' (by omega)
      have hsum := fun rt hrt => sumX_is (rt := rt) hw (t := a) ⟨ha, by omega⟩ hrt bk 0 (fun k hk => hk) (Int.le_refl _) (by omega)
      refine ⟨st2, fun K rt hrt hK => ?_, ?_⟩
      · unfold followGo stretchR
        rw [if_pos hbu, hsum rt hrt, Option.bind_some, Int.zero_add, r1 K rt hrt (by omega), Option.bind_some]
        exact r3 K rt hrt hK
      · have e : (u - a).toNat = (b - a).toNat + (u - b).toNat := by omega
        rw [e, sim_add, show a + ((b - a).toNat : Int) = b by omega]
        exact r4
    · have hua : u = a := by
        rcases List.mem_cons.1 huin with h | h
        · exact h
        · rcases List.mem_cons.1 h with h | h
          · omega
          · have := (List.pairwise_cons.1 (List.pairwise_cons.1 hpw).2).1 u h
            omega
      subst hua
      rw [show (u - u).toNat = 0 by omega]
      refine ⟨st, fun K rt _ _ => ?_, h⟩
      unfold followGo
      rw [if_neg hbu]
end
/-- The passes that are booked lie in time. -/
structure Long (bk : List Int) (ss : Int → List S81) (pf pt : Int → Int) : Prop where
  inside : ∀ k ∈ bk, ∀ s ∈ ss k, pf k ≤ s.f0 ∧ s.f1 ≤ pt k
  long : ∀ k ∈ bk, pt k - pf k ≤ 2000000
def restK (pf pt : Int → Int) (t k : Int) : Nat := (pt k - max (pf k) t).toNat
def restN (bk : List Int) (pf pt : Int → Int) (t : Int) : Nat := (bk.map (restK pf pt t)).sum
theorem rS_open {ss : List S81} {t : Int} (h : 0 < rS ss t) : ∃ s ∈ ss, s.f0 ≤ t ∧ t < s.f1 := by
  unfold rS at h
  cases hf : ss.find? (fun s => decide (s.f0 ≤ t) && decide (t < s.f1)) with
  | none => rw [hf] at h; simp at h
  | some s =>
    have := List.find?_some hf
    simp only [Bool.and_eq_true, decide_eq_true_eq] at this
    exact ⟨s, List.mem_of_find?_eq_some hf, this⟩
theorem rest_step {ss : Int → List S81} {pf pt : Int → Int} (t : Int) : ∀ (bk : List Int), (∀ k ∈ bk, ∀ s ∈ ss k, pf k ≤ s.f0 ∧ s.f1 ≤ pt k) → (actOf bk ss t).length + restN bk pf pt (t + 1) ≤ restN bk pf pt t
  | [], _ => Nat.le_refl _
  | k :: bk, h => by
    have ih := rest_step t bk (fun x hx => h x (List.mem_cons_of_mem _ hx))
    unfold restN at ih ⊢
    rw [actOf_cons, List.map_cons, List.map_cons, List.sum_cons, List.sum_cons]
    by_cases h0 : 0 < rS (ss k) t
    · obtain ⟨s, hs, h1, h2⟩ := rS_open h0
      have := h k List.mem_cons_self s hs
      rw [if_pos h0, List.length_cons]
      have : restK pf pt (t + 1) k + 1 ≤ restK pf pt t k := by unfold restK; omega
      omega
    · rw [if_neg h0]
      have : restK pf pt (t + 1) k ≤ restK pf pt t k := by unfold restK; omega
      omega
theorem rest_all {pf pt : Int → Int} (t : Int) : ∀ (bk : List Int), (∀ k ∈ bk, pt k - pf k ≤ 2000000) → restN bk pf pt t ≤ 2000000 * bk.length
  | [], _ => Nat.le_refl _
  | k :: bk, h => by
    have ih := rest_all t bk (fun x hx => h x (List.mem_cons_of_mem _ hx))
    have h1 := h k List.mem_cons_self
    unfold restN at ih ⊢
    rw [List.map_cons, List.sum_cons, List.length_cons]
    have : restK pf pt t k ≤ 2000000 := by unfold restK; omega
    omega
section
variable {q : List S63} {ord : List Nat} {bk : List Int} {ss : Int → List S81} {pf pt : Int → Int} {ts : List Int} {u : Int}
theorem start_phi (hq : q.length ≤ 300) : phi (start q) ≤ 300 := by
  have := cnt_le (start q).left
  have e : (start q).left.length = q.length := by unfold start; simp
  show 0 + cnt (start q).left ≤ 300
  omega
theorem idle_before (hm : Moms q bk ss ts) {t : Int} (h : ∀ x ∈ ts, t < x) : actOf bk ss t = [] := by
  unfold actOf
  rw [List.filter_eq_nil_iff]
  intro kr hkr
  obtain ⟨k, hk, rfl⟩ := List.mem_map.1 hkr
  rw [rS_none (fun s hs => h _ (hm.way k hk s hs).1)]
  simp
theorem popTo_none {t : Int} {l : List S81} (h : ∀ s ∈ l, t < s.f1) : popTo t l = l := by
  unfold popTo
  cases l with
  | nil => rfl
  | cons s r =>
    rw [List.dropWhile_cons, if_neg]
    have := h s List.mem_cons_self
    simp
    omega
/-- The code's way. -/
theorem code_sim (hg : Good q bk) (ho : Ord q ord) (hw : Ways bk ss) (hL : Long bk ss pf pt) (hbk : bk.Pairwise (· < ·)) (hbl : bk.length ≤ 100) (hm : Moms q bk ss ts) (hu : 0 ≤ u ∧ u ≤ 1000000000000) {st : SX} (h : Sim q ord bk (bk.map ss) st (start q)) :
    ∃ st' W', (∀ K, u.toNat + q.length + 4 ≤ K → runGo q bk u K ts ts.length 0 st = some st') ∧ Sim q ord bk W' st' (sim q ord (actOf bk ss) 0 u.toNat (start q)) := by
  have hN : Rest (actOf bk ss) (restN bk pf pt) := ⟨fun t _ => rest_step t bk hL.inside⟩
  have hW : bk.map ss = bk.map (fun k => popTo (-1) (ss k)) := by
    refine List.map_congr_left fun k hk => (popTo_none fun s hs => ?_).symm
    have := hm.bd _ (hm.way k hk s hs).2
    omega
  rw [hW] at h
  obtain ⟨st', W', h1, h2⟩ := run_sim hg ho hw hbk (by omega) hm hN hu ts.length 0 (-1) (by omega) (fun x hx => by
    have := hm.bd x (by simpa using hx)
    omega) h (fun a ha => by
    have h1 := start_phi hg.many
    have h2 := rest_all (pf := pf) (pt := pt) a bk hL.long
    omega)
  refine ⟨st', W', h1, ?_⟩
  rw [List.drop_zero, cover_all hu.1 hm.up hm.bd (fun t _ ht => Or.inl (idle_before hm ht))] at h2
  exact h2
/-- The reference's way. -/
theorem ref_sim (hg : Good q bk) (ho : Ord q ord) (hw : Ways bk ss) (hL : Long bk ss pf pt) (hbk : bk.Pairwise (· < ·)) (hbl : bk.length ≤ 100) (hm : Moms q bk ss ts) (hu : 0 ≤ u ∧ u ≤ 1000000000000) (hut : u ∈ ts) {st : RX} (h : SimR q st (start q)) :
    ∃ st', (∀ K rt, RtOK bk ss rt → u.toNat + q.length + 4 ≤ K → followGo q bk rt K u ts st = some st') ∧ SimR q st' (sim q ord (actOf bk ss) 0 u.toNat (start q)) := by
  have hN : Rest (actOf bk ss) (restN bk pf pt) := ⟨fun t _ => rest_step t bk hL.inside⟩
  cases hts : ts with
  | nil => rw [hts] at hut; cases hut
  | cons a r =>
    have ha := hm.bd a (by rw [hts]; exact List.mem_cons_self)
    have hau : a ≤ u := by
      have hup := hm.up
      rw [hts] at hup hut
      rcases List.mem_cons.1 hut with h | h
      · omega
      · have := (List.pairwise_cons.1 hup).1 u h; omega
    obtain ⟨st', h1, h2⟩ := follow_sim hg ho hw hbk (by omega) hm hN hu r 0 a (by rw [hts]; rfl) (by rw [← hts]; exact hut) h (fun p hp => by cases hp) (by
      have h1 := start_phi hg.many
      have h2 := rest_all (pf := pf) (pt := pt) a bk hL.long
      omega)
    refine ⟨st', h1, ?_⟩
    have e : u.toNat = a.toNat + (u - a).toNat := by omega
    rw [e, sim_add, show (0 : Int) + (a.toNat : Int) = a by omega, sim_idle (s := start q) a.toNat 0 (fun j hj => Or.inl (idle_before hm (fun x hx => by
      have hup := hm.up
      rw [hts] at hup hx
      rcases List.mem_cons.1 hx with rfl | hx
      · omega
      · have := (List.pairwise_cons.1 hup).1 x hx; omega)))]
    exact h2
/-- At the beginning. -/
theorem start_simR (hg : Good q bk) : SimR q ⟨(start q).left, (start q).done, []⟩ (start q) := by
  refine ⟨rfl, rfl, rfl, by unfold start; simp, by unfold start; simp, fun i hi => ?_, (fun p hp => by cases hp), List.Pairwise.nil⟩
  have := hg.size i
  show 0 ≤ (q.map (·.f1)).getD i 0 ∧ (q.map (·.f1)).getD i 0 ≤ (q.getD i z63).f1
  rw [getD_map (α := Int) hi]
  omega
theorem start_sim (hg : Good q bk) {D : SMapD} (hM : Maps.IsMap D) (hD : ∀ i k, i < q.length → k ∈ bk → Maps.has D (keyK i k) = false) (W : List (List S81)) : Sim q ord bk W ⟨ord.map Int.ofNat, List.replicate q.length 0, q.map (fun x => if x.f1 = 0 then x.f3 else -1), D, [], W⟩ (start q) := by
  refine ⟨rfl, by simp, by unfold start; simp, by unfold start; simp, fun i hi => ?_, fun i hi => ?_, rfl, rfl, (fun j hj => by simp at hj), (fun i k hi hk n hn => by cases hn), fun i k hi hk _ => hD i k hi hk, rfl, hM, (fun p hp => by cases hp)⟩
  · show (List.replicate q.length (0 : Int)).getD i 0 = (q.getD i z63).f1 - (q.map (fun x : S63 => x.f1)).getD i 0
    rw [getD_map (α := Int) hi, List.getD_eq_getElem?_getD, List.getElem?_replicate, if_pos hi]
    simp
  · have := hg.size i
    show 0 ≤ (q.map (·.f1)).getD i 0 ∧ (q.map (·.f1)).getD i 0 ≤ (q.getD i z63).f1
    rw [getD_map (α := Int) hi]
    omega
end
end Snd
end Go.Proofs.Ytbngmblgkkdhpaa.Q
