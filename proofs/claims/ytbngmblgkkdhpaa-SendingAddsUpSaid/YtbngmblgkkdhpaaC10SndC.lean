/- Sending: the code's run is the simulation. -/
-- Made by wip/tools/claimp.py of this session's texts; Lean checks it.
import Derived.Test.YtbngmblgkkdhpaaC10SndB
import Derived.Maps.Views
import Derived.Test.YtbngmblgkkdhpaaC10Gs8
set_option linter.unusedVariables false
set_option linter.unusedSimpArgs false
namespace Go.Proofs.Ytbngmblgkkdhpaa.Q
open Go.RowKit Go.Proofs.YtbngmblgkkdhpaaW.PrintWords Go.Proofs.YtbngmblgkkdhpaaW.PrintLast Go.Proofs.YtbngmblgkkdhpaaW.PrintMore Go.Proofs.Ytbngmblgkkdhpaa.Base
theorem key_lit (i k : Int) : WideAt.IsKeyLit (keyK i k) := by
  unfold keyK
  exact trivial
abbrev putD (D : SMapD) (i k n : Int) : SMapD := D.put (keyK i k) (.lit (.int .i64 n))
theorem isMap_put {D : SMapD} (h : Maps.IsMap D) (i k n : Int) : Maps.IsMap (putD D i k n) := h.put _ _
theorem has_put_same {D : SMapD} (hD : Maps.IsMap D) {i k : Int} (n : Int) (hi : (Lit.int .i64 i).wf = true) (hk : (Lit.int .i64 k).wf = true) : Maps.has (putD D i k n) (keyK i k) = true := Maps.has_put_same hD (key_lit i k) _
theorem open_put_same {D : SMapD} (hD : Maps.IsMap D) {i k : Int} (n : Int) (hi : (Lit.int .i64 i).wf = true) (hk : (Lit.int .i64 k).wf = true) : openD (putD D i k n) i k = n := by
  unfold openD
  rw [Maps.atKey_put_same hD (key_lit i k)]
theorem has_put_ne (D : SMapD) {i k i' k' : Int} (n : Int) (hi : (Lit.int .i64 i).wf = true) (hk : (Lit.int .i64 k).wf = true) (hi' : (Lit.int .i64 i').wf = true) (hk' : (Lit.int .i64 k').wf = true) (h : ¬ (i' = i ∧ k' = k)) : Maps.has (putD D i k n) (keyK i' k') = Maps.has D (keyK i' k') := Maps.has_put_other (keyK_ne hi hk hi' hk' h) _
theorem open_put_ne (D : SMapD) {i k i' k' : Int} (n : Int) (hi : (Lit.int .i64 i).wf = true) (hk : (Lit.int .i64 k).wf = true) (hi' : (Lit.int .i64 i').wf = true) (hk' : (Lit.int .i64 k').wf = true) (h : ¬ (i' = i ∧ k' = k)) : openD (putD D i k n) i' k' = openD D i' k' := by
  unfold openD
  rw [Maps.atKey_put_other (keyK_ne hi hk hi' hk' h)]
namespace Snd
def phi (s : St) : Nat := s.parts.length + cnt s.left
theorem tell_len (P : List S61) (nm : ByteArray) (k frm to_ n : Int) : (tell P nm k frm to_ n).length ≤ P.length + 1 := by
  rcases tell_cases P nm k frm to_ n with ⟨m, p, h1, h2, h3, h⟩ | ⟨h1, h⟩ <;> rw [h] <;> simp
theorem cnt_set_le : ∀ {l : List Int} {i : Nat} {v : Int}, v ≤ l.getD i 0 → cnt (l.set i v) ≤ cnt l
  | [], i, v, h => by simp
  | x :: r, 0, v, h => by
    have hx : v ≤ x := by simpa using h
    simp only [cnt, List.set_cons_zero, List.countP_cons]
    by_cases h1 : 0 < v
    · have : 0 < x := by omega
      simp [h1, this]
    · simp [h1]
  | x :: r, i + 1, v, h => by
    have := cnt_set_le (l := r) (i := i) (v := v) (by simpa using h)
    simp only [cnt, List.set_cons_succ, List.countP_cons] at this ⊢
    omega
section
variable {q : List S63} {ord : List Nat} {act : Int → List (Int × Int)}
theorem serve_phi {t k : Int} : ∀ (F : Nat) (s : St) (room : Int), phi (serve q ord t k F s room) ≤ phi s + (if 0 < room then 1 else 0)
  | 0, s, room => Nat.le_add_right _ _
  | F + 1, s, room => by
    unfold serve
    by_cases hr : room ≤ 0
    · rw [if_pos hr]; omega
    · rw [if_neg hr, if_pos (by omega)]
      cases ht : top q ord s.left t with
      | none => simp only; omega
      | some i =>
        simp only
        obtain ⟨hp, _, _⟩ := top_pos ht
        have hl := tell_len s.parts (q.getD i z63).f0 k t (t + 1) (min room (s.left.getD i 0))
        have ih := serve_phi (t := t) (k := k) F (give q s i k t (t + 1) (min room (s.left.getD i 0))) (room - min room (s.left.getD i 0))
        by_cases hm : room ≤ s.left.getD i 0
        · rw [show min room (s.left.getD i 0) = room by omega] at *
          rw [if_neg (by omega)] at ih
          have h2 : cnt (s.left.set i (s.left.getD i 0 - room)) ≤ cnt s.left := cnt_set_le (by omega)
          have h3 : phi (give q s i k t (t + 1) room) ≤ phi s + 1 := by
            unfold phi give
            simp only
            omega
          omega
        · rw [show min room (s.left.getD i 0) = s.left.getD i 0 by omega] at *
          rw [if_pos (by omega)] at ih
          have h2 := cnt_set_zero hp
          have h3 : phi (give q s i k t (t + 1) (s.left.getD i 0)) ≤ phi s := by
            unfold phi give
            simp only
            rw [Int.sub_self]
            omega
          omega
theorem tick_phi {t : Int} : ∀ (A : List (Int × Int)) (s : St), phi (tickA q ord t A s) ≤ phi s + A.length
  | [], s => Nat.le_refl _
  | kr :: A, s => by
    show phi (tickA q ord t A (serve q ord t kr.1 (q.length + 1) s kr.2)) ≤ _
    have h1 := tick_phi (t := t) A (serve q ord t kr.1 (q.length + 1) s kr.2)
    have h2 := serve_phi (q := q) (ord := ord) (t := t) (k := kr.1) (q.length + 1) s kr.2
    have h3 : (if 0 < kr.2 then 1 else 0) ≤ 1 := by split <;> omega
    simp only [List.length_cons]
    omega
/-- What may still be opened. -/
structure Rest (act : Int → List (Int × Int)) (N : Int → Nat) : Prop where
  step : ∀ t, 0 ≤ t → (act t).length + N (t + 1) ≤ N t
theorem Rest.down {N : Int → Nat} (h : Rest act N) {t : Int} (h0 : 0 ≤ t) : ∀ n : Nat, N (t + n) ≤ N t
  | 0 => by simp
  | n + 1 => by
    have h1 := h.down h0 n
    have h2 := h.step (t + n) (by omega)
    rw [show t + ((n + 1 : Nat) : Int) = t + (n : Int) + 1 by omega]
    omega
theorem Rest.le {N : Int → Nat} (h : Rest act N) {a b : Int} (h0 : 0 ≤ a) (hab : a ≤ b) : N b ≤ N a := by
  have := h.down h0 (b - a).toNat
  rwa [show a + ((b - a).toNat : Int) = b by omega] at this
theorem sim_phi {N : Int → Nat} (h : Rest act N) : ∀ (n : Nat) (t : Int) (s : St), 0 ≤ t → phi (sim q ord act t n s) + N (t + n) ≤ phi s + N t
  | 0, t, s, _ => by simp [sim]
  | n + 1, t, s, h0 => by
    have h1 := sim_phi h n (t + 1) (tickA q ord t (act t) s) (by omega)
    have h2 := tick_phi (q := q) (ord := ord) (t := t) (act t) s
    have h3 := h.step t h0
    rw [show t + ((n + 1 : Nat) : Int) = t + 1 + (n : Int) by omega]
    show phi (sim q ord act (t + 1) n (tickA q ord t (act t) s)) + _ ≤ _
    omega
end
structure Good (q : List S63) (bk : List Int) : Prop where
  dist : Distinct q
  many : q.length ≤ 300
  size : ∀ i, 0 ≤ (q.getD i z63).f1 ∧ (q.getD i z63).f1 ≤ 1000000000000
  pass : ∀ k ∈ bk, 0 ≤ k ∧ k ≤ 1000000
structure Sim (q : List S63) (ord : List Nat) (bk : List Int) (W : List (List S81)) (st : SX) (s : St) : Prop where
  ord : st.ord = ord.map Int.ofNat
  slen : st.sent.length = q.length
  llen : s.left.length = q.length
  dlen : s.done.length = q.length
  sent : ∀ i, i < q.length → st.sent.getD i 0 = (q.getD i z63).f1 - s.left.getD i 0
  nn : ∀ i, i < q.length → 0 ≤ s.left.getD i 0 ∧ s.left.getD i 0 ≤ (q.getD i z63).f1
  done : st.done = s.done
  rows : st.rows.map (·.p) = s.parts
  nums : ∀ j : Nat, j < st.rows.length → (rowAt st.rows j).n = j
  some_ : ∀ i k, i < q.length → k ∈ bk → ∀ n, lastIx s.parts (q.getD i z63).f0 k = some n → Maps.has st.opn (keyK i k) = true ∧ openD st.opn i k = n
  none_ : ∀ i k, i < q.length → k ∈ bk → lastIx s.parts (q.getD i z63).f0 k = none → Maps.has st.opn (keyK i k) = false
  ways : st.ways = W
  ismap : Maps.IsMap st.opn
  size : ∀ p ∈ s.parts, ∀ i, i < q.length → (q.getD i z63).f0 = p.f0 → 0 ≤ p.f4 ∧ p.f4 + s.left.getD i 0 ≤ (q.getD i z63).f1
theorem Sim.plen {q : List S63} {ord : List Nat} {bk : List Int} {W : List (List S81)} {st : SX} {s : St} (h : Sim q ord bk W st s) : s.parts.length = st.rows.length := by rw [← h.rows, List.length_map]
theorem rowAt_of {l : List SRow} {P : List S61} (h : l.map (·.p) = P) {n : Nat} {p : S61} (hp : P[n]? = some p) : n < l.length ∧ (rowAt l n).p = p := by
  subst h
  rw [List.getElem?_map] at hp
  cases hl : l[n]? with
  | none => rw [hl] at hp; cases hp
  | some x =>
    rw [hl] at hp
    refine ⟨(List.getElem?_eq_some_iff.1 hl).1, ?_⟩
    unfold rowAt
    rw [List.getD_eq_getElem?_getD, hl]
    exact Option.some.inj hp
theorem rowAt_set_same {l : List SRow} {n : Nat} (h : n < l.length) (x : SRow) : rowAt (l.set n x) n = x := by
  unfold rowAt
  rw [List.getD_eq_getElem?_getD, List.getElem?_set_self h]
  rfl
theorem rowAt_set_ne {l : List SRow} {n m : Nat} (h : n ≠ m) (x : SRow) : rowAt (l.set n x) m = rowAt l m := by
  unfold rowAt
  rw [List.getD_eq_getElem?_getD, List.getElem?_set_ne h, ← List.getD_eq_getElem?_getD]
theorem rowAt_old {l : List SRow} {n : Nat} (h : n < l.length) (x : SRow) : rowAt (l ++ [x]) n = rowAt l n := by
  unfold rowAt
  rw [List.getD_eq_getElem?_getD, List.getElem?_append_left h, ← List.getD_eq_getElem?_getD]
theorem rowAt_last (l : List SRow) (x : SRow) : rowAt (l ++ [x]) l.length = x := by
  unfold rowAt
  simp [List.getD_eq_getElem?_getD]
def rowEnd (r : SRow) (to_ size : Int) : SRow := ⟨⟨r.p.f0, r.p.f1, r.p.f2, to_, wrap64 (r.p.f4 + size)⟩, r.n⟩
theorem giveEnd_eq (q : List S63) (st : SX) {n : Nat} (hn : n < st.rows.length) (i : Nat) (hi : i < st.sent.length) (to_ size : Int) :
    giveEnd q st n (i : Int) to_ size = { st with sent := st.sent.set i (wrap64 (rd st.sent i + size)), done := if wrap64 (rd st.sent i + size) = (rd_T63 q i).f1 then st.done.set i to_ else st.done, rows := st.rows.set n (rowEnd (rowAt st.rows n) to_ size) } := by
  have e1 : rd (st.sent.set i (wrap64 (rd st.sent i + size))) (i : Int) = wrap64 (rd st.sent i + size) := by
    conv => lhs; unfold rd
    rw [Int.toNat_natCast, List.getD_eq_getElem?_getD, List.getElem?_set_self hi]
    rfl
  have e2 : (st.rows.set n (rowTo (rowAt st.rows n) to_)).set n (rowSize (rowAt (st.rows.set n (rowTo (rowAt st.rows n) to_)) n) (wrap64 ((rowAt (st.rows.set n (rowTo (rowAt st.rows n) to_)) n).p.f4 + size))) = st.rows.set n (rowEnd (rowAt st.rows n) to_ size) := by
    rw [rowAt_set_same hn, List.set_set]
    rfl
  unfold giveEnd giveSent giveSize giveTo giveDone
  simp only [Int.toNat_natCast]
  rw [e1, e2]
  split <;> rfl
theorem map_set {l : List SRow} {n : Nat} {x : SRow} : (l.set n x).map (·.p) = (l.map (·.p)).set n x.p := by rw [List.map_set]
section
variable {q : List S63} {ord : List Nat} {bk : List Int} {W : List (List S81)} {st : SX} {s : St}
theorem sent_at (h : Sim q ord bk W st s) {i : Nat} (hi : i < q.length) : rd st.sent (i : Int) = (q.getD i z63).f1 - s.left.getD i 0 := by
  unfold rd
  rw [Int.toNat_natCast]
  exact h.sent i hi
theorem item_at (q : List S63) (i : Nat) : rd_T63 q (i : Int) = q.getD i z63 := by
  unfold rd_T63
  rw [Int.toNat_natCast]
/-- One giving. -/
theorem give_sim (hg : Good q bk) (h : Sim q ord bk W st s) {i : Nat} (hi : i < q.length) {k frm to_ n : Int} (hk : k ∈ bk) (hn : 1 ≤ n ∧ n ≤ s.left.getD i 0) (hr : s.parts.length < 1000000000) :
    giveOK q st i k ∧ Sim q ord bk W (giveX q st i k frm to_ n) (give q s i k frm to_ n) := by
  have hkb := hg.pass k hk
  have hib := hg.many
  have hsz := hg.size i
  have wi : (Lit.int .i64 (i : Int)).wf = true := wf64 (by omega) (by omega)
  have wk : (Lit.int .i64 k).wf = true := wf64 (by omega) (by omega)
  have hpl := h.plen
  have hnn := h.nn i hi
  have hsent := sent_at h hi
  have hil : i < st.sent.length := by rw [h.slen]; exact hi
  have ew : wrap64 (rd st.sent i + n) = (q.getD i z63).f1 - (s.left.getD i 0 - n) := by rw [hsent, w64 (by omega) (by omega)]; omega
  -- what the four rows come to_, wherever they are written
  have key : ∀ (rows : List SRow) (D : SMapD) (m : Nat) (P' : List S61), Maps.IsMap D → m < rows.length → ((rows.set m (rowEnd (rowAt rows m) to_ n)).map (·.p)) = P' →
      (∀ j : Nat, j < rows.length → (rowAt rows j).n = j) →
      (∀ i' k', i' < q.length → k' ∈ bk → ∀ m', lastIx P' (q.getD i' z63).f0 k' = some m' → Maps.has D (keyK i' k') = true ∧ openD D i' k' = m') →
      (∀ i' k', i' < q.length → k' ∈ bk → lastIx P' (q.getD i' z63).f0 k' = none → Maps.has D (keyK i' k') = false) →
      (∀ p ∈ P', ∀ i', i' < q.length → (q.getD i' z63).f0 = p.f0 → 0 ≤ p.f4 ∧ p.f4 + (s.left.set i (s.left.getD i 0 - n)).getD i' 0 ≤ (q.getD i' z63).f1) →
      Sim q ord bk W (giveEnd q { st with rows := rows, opn := D } m (i : Int) to_ n) ⟨s.left.set i (s.left.getD i 0 - n), if s.left.getD i 0 - n = 0 then s.done.set i to_ else s.done, P'⟩ := by
    intro rows D m P' hmap hm hP hnum h1 h2 h3
    rw [giveEnd_eq q { st with rows := rows, opn := D } hm i hil to_ n]
    refine ⟨h.ord, by simp [h.slen], by simp [h.llen], ?_, fun j hj => ?_, fun j hj => ?_, ?_, hP, fun j hj => ?_, h1, h2, h.ways, hmap, h3⟩
    · show (if s.left.getD i 0 - n = 0 then s.done.set i to_ else s.done).length = _
      split <;> simp [h.dlen]
    · show (st.sent.set i (wrap64 (rd st.sent i + n))).getD j 0 = (q.getD j z63).f1 - (s.left.set i (s.left.getD i 0 - n)).getD j 0
      by_cases e : i = j
      · subst e
        rw [getD_set_self hil, getD_set_self (by rw [h.llen]; exact hi), ew]
      · rw [getD_set_ne e, getD_set_ne e]
        exact h.sent j hj
    · show 0 ≤ (s.left.set i (s.left.getD i 0 - n)).getD j 0 ∧ _
      by_cases e : i = j
      · subst e
        rw [getD_set_self (by rw [h.llen]; exact hi)]
        omega
      · rw [getD_set_ne e]
        exact h.nn j hj
    · show (if wrap64 (rd st.sent i + n) = (rd_T63 q i).f1 then st.done.set i to_ else st.done) = (if s.left.getD i 0 - n = 0 then s.done.set i to_ else s.done)
      rw [ew, item_at, h.done]
      by_cases e : s.left.getD i 0 - n = 0
      · rw [if_pos e, if_pos (by omega)]
      · rw [if_neg e, if_neg (by omega)]
    · show (rowAt (rows.set m (rowEnd (rowAt rows m) to_ n)) j).n = j
      have hj' : j < rows.length := by simpa using hj
      by_cases e : m = j
      · subst e
        rw [rowAt_set_same hm]
        exact hnum m hm
      · rw [rowAt_set_ne e]
        exact hnum j hj'
  have hsizes : ∀ i', i' < q.length → (s.left.set i (s.left.getD i 0 - n)).getD i' 0 ≤ s.left.getD i' 0 := fun i' hi' => by
    by_cases e : i = i'
    · subst e
      rw [getD_set_self (by rw [h.llen]; exact hi)]
      omega
    · rw [getD_set_ne e]; omega
  have hli : (s.left.set i (s.left.getD i 0 - n)).getD i 0 = s.left.getD i 0 - n := getD_set_self (by rw [h.llen]; exact hi) _
  have hOKs : giveOK q st i k := by
    refine ⟨⟨by omega, by omega⟩, h.slen, by rw [h.done]; exact h.dlen, fun hh => ?_, by omega, wk⟩
    cases hl : lastIx s.parts (q.getD i z63).f0 k with
    | none => rw [h.none_ i k hi hk hl] at hh; cases hh
    | some m =>
      obtain ⟨p, hp, _⟩ := lastIx_some hl
      have := (List.getElem?_eq_some_iff.1 hp).1
      rw [(h.some_ i k hi hk m hl).2]
      omega
  refine ⟨hOKs, ?_⟩
  unfold giveX give
  rw [item_at]
  rcases tell_cases s.parts (q.getD i z63).f0 k frm to_ n with ⟨m, p, h1, h2, h3, h4⟩ | ⟨h1, h4⟩
  · obtain ⟨g1, g2⟩ := h.some_ i k hi hk m h1
    obtain ⟨r1, r2⟩ := rowAt_of h.rows h2
    obtain ⟨p', e0, e1, e2⟩ := lastIx_some h1
    rw [h2] at e0
    obtain rfl := Option.some.inj e0
    have hps := h.size p (List.mem_of_getElem? h2) i hi e1.symm
    have hx : rowEnd (rowAt st.rows m) to_ n = ⟨upd p to_ n, (rowAt st.rows m).n⟩ := by
      unfold rowEnd upd
      rw [r2, w64 (by omega) (by omega)]
    have hc : Maps.has st.opn (keyK i k) = true ∧ (rowAt st.rows (openD st.opn i k).toNat).p.f3 = frm := ⟨g1, by rw [g2, Int.toNat_natCast, r2]; exact h3⟩
    rw [if_pos hc, g2, Int.toNat_natCast, h4]
    refine key st.rows st.opn m _ h.ismap r1 (by rw [hx, map_set, h.rows]) h.nums ?_ ?_ ?_
    · intro i' k' hi' hk' m' hm'
      rw [lastIx_set h2 (x := upd p to_ n) rfl rfl] at hm'
      exact h.some_ i' k' hi' hk' m' hm'
    · intro i' k' hi' hk' hm'
      rw [lastIx_set h2 (x := upd p to_ n) rfl rfl] at hm'
      exact h.none_ i' k' hi' hk' hm'
    · intro p' hp' i' hi' hnm
      rcases List.mem_or_eq_of_mem_set hp' with hp' | rfl
      · have := h.size p' hp' i' hi' hnm
        have := hsizes i' hi'
        omega
      · have hii : i' = i := hg.dist.inj i' i hi' hi (hnm.trans e1)
        subst hii
        rw [hli]
        show 0 ≤ p.f4 + n ∧ p.f4 + n + _ ≤ _
        omega
  · have hc : ¬ (Maps.has st.opn (keyK i k) = true ∧ (rowAt st.rows (openD st.opn i k).toNat).p.f3 = frm) := by
      rintro ⟨c1, c2⟩
      cases hl : lastIx s.parts (q.getD i z63).f0 k with
      | none => rw [h.none_ i k hi hk hl] at c1; cases c1
      | some m =>
        obtain ⟨p, hp, _⟩ := lastIx_some hl
        rw [(h.some_ i k hi hk m hl).2, Int.toNat_natCast, (rowAt_of h.rows hp).2] at c2
        exact h1 m p hl hp c2
    rw [if_neg hc, h4]
    have hlen : st.rows.length < (st.rows ++ [(⟨⟨(q.getD i z63).f0, k, frm, 0, 0⟩, (st.rows.length : Int)⟩ : SRow)]).length := by simp
    refine key (st.rows ++ [⟨⟨(q.getD i z63).f0, k, frm, 0, 0⟩, (st.rows.length : Int)⟩]) (putD st.opn i k (st.rows.length : Int)) st.rows.length _ (isMap_put h.ismap _ _ _) hlen ?_ ?_ ?_ ?_ ?_
    · rw [rowAt_last, map_set, List.map_append, h.rows]
      unfold rowEnd
      simp only [Int.zero_add]
      rw [w64 (by omega) (by omega), ← hpl]
      simp
    · intro j hj
      by_cases e : j < st.rows.length
      · rw [rowAt_old e]; exact h.nums j e
      · obtain rfl : j = st.rows.length := by simp at hj; omega
        rw [rowAt_last]
    · intro i' k' hi' hk' m' hm'
      have wi' : (Lit.int .i64 (i' : Int)).wf = true := wf64 (by omega) (by omega)
      have wk' : (Lit.int .i64 k').wf = true := wf64 (by have := hg.pass k' hk'; omega) (by have := hg.pass k' hk'; omega)
      by_cases e : (i' : Int) = i ∧ k' = k
      · obtain ⟨e1, rfl⟩ := e
        obtain rfl : i' = i := by omega
        rw [lastIx_new] at hm'
        obtain rfl := Option.some.inj hm'
        rw [hpl]
        exact ⟨has_put_same h.ismap _ wi wk, open_put_same h.ismap _ wi wk⟩
      · rw [has_put_ne _ _ wi wk wi' wk' e, open_put_ne _ _ wi wk wi' wk' e]
        rw [lastIx_app (fun hh => e ⟨by have := hg.dist.inj i i' hi hi' hh.1; omega, hh.2.symm⟩)] at hm'
        exact h.some_ i' k' hi' hk' m' hm'
    · intro i' k' hi' hk' hm'
      have wi' : (Lit.int .i64 (i' : Int)).wf = true := wf64 (by omega) (by omega)
      have wk' : (Lit.int .i64 k').wf = true := wf64 (by have := hg.pass k' hk'; omega) (by have := hg.pass k' hk'; omega)
      by_cases e : (i' : Int) = i ∧ k' = k
      · obtain ⟨e1, rfl⟩ := e
        obtain rfl : i' = i := by omega
        rw [lastIx_new] at hm'
        cases hm'
      · rw [has_put_ne _ _ wi wk wi' wk' e]
        rw [lastIx_app (fun hh => e ⟨by have := hg.dist.inj i i' hi hi' hh.1; omega, hh.2.symm⟩)] at hm'
        exact h.none_ i' k' hi' hk' hm'
    · intro p' hp' i' hi' hnm
      rcases List.mem_append.1 hp' with hp' | hp'
      · have := h.size p' hp' i' hi' hnm
        have := hsizes i' hi'
        omega
      · obtain rfl := List.mem_singleton.1 hp'
        have hii : i' = i := hg.dist.inj i' i hi' hi hnm
        subst hii
        rw [hli]
        show 0 ≤ n ∧ n + _ ≤ _
        omega
end
section
variable {q : List S63} {ord : List Nat} {bk : List Int} {W : List (List S81)} {st : SX} {s : St}
/-- Which item is sent. -/
theorem topGo_is (q : List S63) (sent left : List Int) (t : Int) : ∀ l : List Nat, (∀ i ∈ l, i < q.length) → (∀ i, i < q.length → sent.getD i 0 = (q.getD i z63).f1 - left.getD i 0) →
    topGo q sent t (l.map Int.ofNat) = match l.find? (avail q left t) with
      | some i => (i : Int)
      | none => -1
  | [], _, _ => rfl
  | i :: l, hl, hs => by
    have hi := hl i List.mem_cons_self
    have ih := topGo_is q sent left t l (fun j hj => hl j (List.mem_cons_of_mem _ hj)) hs
    rw [List.map_cons, List.find?_cons]
    show topGo q sent t ((i : Int) :: l.map Int.ofNat) = _
    unfold topGo
    have e : rd sent (i : Int) = (q.getD i z63).f1 - left.getD i 0 := by unfold rd; rw [Int.toNat_natCast]; exact hs i hi
    rw [item_at, e]
    by_cases h : avail q left t i = true
    · rw [h]
      unfold avail at h
      simp only [Bool.and_eq_true, decide_eq_true_eq] at h
      rw [if_pos ⟨h.1, by omega⟩]
    · have h' : avail q left t i = false := by simpa using h
      rw [h', if_neg (fun hc => h (by unfold avail; simp only [Bool.and_eq_true, decide_eq_true_eq]; exact ⟨hc.1, by omega⟩))]
      exact ih
theorem topV_is (ho : Ord q ord) (h : Sim q ord bk W st s) (t : Int) : topV q st t = match top q ord s.left t with
      | some i => (i : Int)
      | none => -1 := by
  unfold topV
  rw [h.ord]
  exact topGo_is q st.sent s.left t ord (fun i hi => (ho.all i).1 hi) h.sent
theorem nodup_len : ∀ (n : Nat) (l : List Nat), l.Nodup → (∀ i ∈ l, i < n) → l.length ≤ n
  | 0, l, _, h => by
    cases l with
    | nil => exact Nat.le_refl _
    | cons a r => exact absurd (h a List.mem_cons_self) (Nat.not_lt_zero _)
  | n + 1, l, hn, h => by
    by_cases hm : n ∈ l
    · have h1 := nodup_len n (l.erase n) (hn.erase n) (fun i hi => by
        have h2 := (hn.mem_erase_iff).1 hi
        have := h i h2.2
        have := h2.1
        omega)
      rw [List.length_erase_of_mem hm] at h1
      omega
    · have := nodup_len n l hn (fun i hi => by
        have := h i hi
        have : i ≠ n := fun e => hm (e ▸ hi)
        omega)
      omega
theorem ord_len (ho : Ord q ord) : ord.length ≤ q.length :=
  nodup_len q.length ord (ho.sorted.imp (fun {a b} h e => by subst e; exact before_asymm h h)) (fun i hi => (ho.all i).1 hi)
theorem topOK_of (hg : Good q bk) (ho : Ord q ord) (h : Sim q ord bk W st s) : topOK q st := by
  refine ⟨fun i hi => ?_, h.slen, ?_⟩
  · rw [h.ord] at hi
    obtain ⟨j, hj, rfl⟩ := List.mem_map.1 hi
    have := (ho.all j).1 hj
    exact ⟨Int.natCast_nonneg j, Int.ofNat_lt.2 this⟩
  · rw [h.ord, List.length_map]
    have := ord_len ho
    have := hg.many
    omega
theorem leftV_is (hg : Good q bk) (h : Sim q ord bk W st s) {i : Nat} (hi : i < q.length) : leftV q st (i : Int) = s.left.getD i 0 := by
  have := hg.size i
  have := h.nn i hi
  unfold leftV
  rw [item_at, sent_at h hi, w64 (by omega) (by omega)]
  omega
theorem mn_min (a b : Int) : mn a b = min a b := by unfold mn; omega
/-- What one pass takes in a millisecond. -/
theorem serve_sim (hg : Good q bk) (ho : Ord q ord) {t k : Int} (ht : 0 ≤ t ∧ t ≤ 1000000000000) (hk : k ∈ bk) : ∀ (F : Nat) {st : SX} {s : St} (room : Int), 0 ≤ room → room ≤ 1000000 → Sim q ord bk W st s → (cnt s.left + 1 ≤ F ∨ room ≤ 0) → phi s < 1000000000 →
    ∃ st', (∀ K, F + 1 ≤ K → serveX q k t K st room = some st') ∧ Sim q ord bk W st' (serve q ord t k F s room) := by
  intro F
  induction F with
  | zero =>
    intro st s room h0 h1 h hF hB
    have hr : room ≤ 0 := by omega
    refine ⟨st, fun K hK => ?_, h⟩
    obtain ⟨K, rfl⟩ : ∃ K', K = K' + 1 := ⟨K - 1, by omega⟩
    unfold serveX
    rw [if_neg (by omega)]
  | succ F ih =>
    intro st s room h0 h1 h hF hB
    unfold serve
    by_cases hr : room ≤ 0
    · rw [if_pos hr]
      refine ⟨st, fun K hK => ?_, h⟩
      obtain ⟨K, rfl⟩ : ∃ K', K = K' + 1 := ⟨K - 1, by omega⟩
      unfold serveX
      rw [if_neg (by omega)]
    · rw [if_neg hr]
      have hOK := topOK_of hg ho h
      have hV := topV_is ho h t
      cases htop : top q ord s.left t with
      | none =>
        rw [htop] at hV
        simp only at hV ⊢
        refine ⟨st, fun K hK => ?_, h⟩
        obtain ⟨K, rfl⟩ : ∃ K', K = K' + 1 := ⟨K - 1, by omega⟩
        unfold serveX
        rw [if_pos (by omega), if_pos hOK, hV, if_pos (by omega)]
      | some i =>
        rw [htop] at hV
        simp only at hV ⊢
        obtain ⟨hp, _, hmem⟩ := top_pos htop
        have hi := (ho.all i).1 hmem
        have hL := leftV_is hg h hi
        have hn : 1 ≤ min room (s.left.getD i 0) ∧ min room (s.left.getD i 0) ≤ s.left.getD i 0 := by omega
        have hph : s.parts.length < 1000000000 := by unfold phi at hB; omega
        obtain ⟨g1, g2⟩ := give_sim (frm := t) (to_ := t + 1) hg h hi hk hn hph
        have hcnt : cnt (give q s i k t (t + 1) (min room (s.left.getD i 0))).left + 1 ≤ F ∨ room - min room (s.left.getD i 0) ≤ 0 := by
          by_cases hm : room ≤ s.left.getD i 0
          · right; omega
          · left
            show cnt (s.left.set i (s.left.getD i 0 - min room (s.left.getD i 0))) + 1 ≤ F
            rw [show min room (s.left.getD i 0) = s.left.getD i 0 by omega, Int.sub_self]
            have := cnt_set_zero hp
            omega
        by_cases hm : room ≤ s.left.getD i 0
        · -- the last one
          have e0 : room - min room (s.left.getD i 0) = 0 := by omega
          rw [e0, serve_zero (Int.le_refl 0)]
          refine ⟨_, fun K hK => ?_, g2⟩
          obtain ⟨K, rfl⟩ : ∃ K', K = K' + 1 := ⟨K - 1, by omega⟩
          unfold serveX
          rw [if_pos (by omega), if_pos hOK, hV, if_neg (by omega), if_pos g1, hL, mn_min, w64 (x := t + 1) (by omega) (by omega), w64 (x := room - _) (by omega) (by omega), e0]
          obtain ⟨K, rfl⟩ : ∃ K', K = K' + 1 := ⟨K - 1, by omega⟩
          unfold serveX
          rw [if_neg (by omega)]
        · have hB' : phi (give q s i k t (t + 1) (min room (s.left.getD i 0))) < 1000000000 := by
            have h2 := cnt_set_zero hp
            have hl := tell_len s.parts (q.getD i z63).f0 k t (t + 1) (min room (s.left.getD i 0))
            rw [show min room (s.left.getD i 0) = s.left.getD i 0 by omega] at hl ⊢
            unfold phi give at *
            simp only
            rw [Int.sub_self]
            omega
          obtain ⟨st', r1, r2⟩ := ih (room - min room (s.left.getD i 0)) (by omega) (by omega) g2 hcnt hB'
          refine ⟨st', fun K hK => ?_, r2⟩
          obtain ⟨K, rfl⟩ : ∃ K', K = K' + 1 := ⟨K - 1, by omega⟩
          unfold serveX
          rw [if_pos (by omega), if_pos hOK, hV, if_neg (by omega), if_pos g1, hL, mn_min, w64 (x := t + 1) (by omega) (by omega), w64 (x := room - _) (by omega) (by omega)]
          exact r1 K (by omega)
/-- A millisecond. -/
theorem tick_sim (hg : Good q bk) (ho : Ord q ord) {t : Int} (ht : 0 ≤ t ∧ t ≤ 1000000000000) : ∀ (A : List (Int × Int)) {st : SX} {s : St}, (∀ kr ∈ A, kr.1 ∈ bk ∧ 0 ≤ kr.2 ∧ kr.2 ≤ 1000000) → Sim q ord bk W st s → phi s + A.length < 1000000000 →
    ∃ st', (∀ K, q.length + 2 ≤ K → serveAllX q K t A st = some st') ∧ Sim q ord bk W st' (tickA q ord t A s)
  | [], st, s, _, h, _ => ⟨st, fun K _ => rfl, h⟩
  | kr :: A, st, s, hA, h, hB => by
    obtain ⟨h1, h2, h3⟩ := hA kr List.mem_cons_self
    simp only [List.length_cons] at hB
    have hc : cnt s.left + 1 ≤ q.length + 1 ∨ kr.2 ≤ 0 := Or.inl (by have := cnt_le s.left; rw [h.llen] at this; omega)
    obtain ⟨st1, r1, r2⟩ := serve_sim hg ho ht h1 (q.length + 1) kr.2 h2 h3 h hc (by omega)
    have hp := serve_phi (q := q) (ord := ord) (t := t) (k := kr.1) (q.length + 1) s kr.2
    have hp2 : (if 0 < kr.2 then 1 else 0) ≤ 1 := by split <;> omega
    obtain ⟨st2, r3, r4⟩ := tick_sim hg ho ht A (fun x hx => hA x (List.mem_cons_of_mem _ hx)) r2 (by omega)
    refine ⟨st2, fun K hK => ?_, r4⟩
    unfold serveAllX
    rw [r1 K (by omega), Option.bind_some]
    exact r3 K hK
/-- One item alone in all passes. -/
theorem giveAll_sim (hg : Good q bk) {i : Nat} (hi : i < q.length) {frm to_ n : Int} (hn : 1 ≤ n) : ∀ (A : List (Int × Int)) {st : SX} {s : St}, (∀ kr ∈ A, kr.1 ∈ bk ∧ 0 < kr.2) → Sim q ord bk W st s → n * tot A ≤ s.left.getD i 0 → s.parts.length + A.length < 1000000000 →
    ∃ st', giveAllX q i frm to_ n A st = some st' ∧ Sim q ord bk W st' (giveAll q s i A frm to_ n)
  | [], st, s, _, h, _, _ => ⟨st, rfl, h⟩
  | kr :: A, st, s, hA, h, hl, hB => by
    obtain ⟨h1, h2⟩ := hA kr List.mem_cons_self
    have hA' : ∀ x ∈ A, x.1 ∈ bk ∧ 0 < x.2 := fun x hx => hA x (List.mem_cons_of_mem _ hx)
    have ht := tot_nonneg (A := A) (fun x hx => (hA' x hx).2)
    simp only [List.length_cons] at hB
    rw [tot_cons, Int.mul_add] at hl
    have hnr : 0 < n * kr.2 := Int.mul_pos (by omega) h2
    have hnt : 0 ≤ n * tot A := Int.mul_nonneg (by omega) ht
    have hsz := hg.size i
    have hnn := h.nn i hi
    obtain ⟨g1, g2⟩ := give_sim (frm := frm) (to_ := to_) (n := n * kr.2) hg h hi h1 ⟨by omega, by omega⟩ (by omega)
    have htl := tell_len s.parts (q.getD i z63).f0 kr.1 frm to_ (n * kr.2)
    obtain ⟨st', r1, r2⟩ := giveAll_sim hg hi hn A (s := give q s i kr.1 frm to_ (n * kr.2)) hA' g2 (by
      show n * tot A ≤ (s.left.set i (s.left.getD i 0 - n * kr.2)).getD i 0
      rw [getD_set_self (by rw [h.llen]; exact hi)]
      omega) (by show (tell s.parts (q.getD i z63).f0 kr.1 frm to_ (n * kr.2)).length + _ < _; omega)
    refine ⟨st', ?_, r2⟩
    unfold giveAllX
    rw [if_pos g1, w64 (x := n * kr.2) (by omega) (by omega)]
    exact r1
end
theorem tot_le : ∀ {A : List (Int × Int)}, (∀ kr ∈ A, kr.2 ≤ 1000000) → tot A ≤ 1000000 * A.length
  | [], _ => by simp [tot]
  | kr :: A, h => by
    have h1 := h kr List.mem_cons_self
    have h2 := tot_le (A := A) (fun x hx => h x (List.mem_cons_of_mem _ hx))
    rw [tot_cons, List.length_cons]
    omega
section
variable {q : List S63} {ord : List Nat} {bk : List Int} {W : List (List S81)} {act : Int → List (Int × Int)} {N : Int → Nat}
/-- A stretch. -/
theorem stretch_sim (hg : Good q bk) (ho : Ord q ord) (hN : Rest act N) {A : List (Int × Int)} {to_ : Int} (hA : ∀ kr ∈ A, kr.1 ∈ bk ∧ 0 < kr.2 ∧ kr.2 ≤ 1000000) (hnd : (A.map (·.1)).Nodup) (hAl : A.length ≤ 1000) (hto : to_ ≤ 1000000000000) :
    ∀ (d : Nat) (a : Int) {st : SX} {s : St}, 0 ≤ a → (to_ - a).toNat ≤ d → (∀ t, a ≤ t → t < to_ → act t = A) → (∀ t, a ≤ t → t < to_ → ∀ i : Nat, (q.getD i z63).f3 ≤ t ↔ (q.getD i z63).f3 ≤ a) → Sim q ord bk W st s → phi s + N a + 2000 ≤ 1000000000 →
    ∃ st', (∀ K, d + q.length + 4 ≤ K → stretchX q A (tot A) to_ K st a = some st') ∧ Sim q ord bk W st' (sim q ord act a (to_ - a).toNat s) := by
  intro d
  induction d with
  | zero =>
    intro a st s h0 hd hact hrd h hB
    rw [show (to_ - a).toNat = 0 by omega]
    refine ⟨st, fun K hK => ?_, h⟩
    obtain ⟨K, rfl⟩ : ∃ K', K = K' + 1 := ⟨K - 1, by omega⟩
    unfold stretchX
    rw [if_neg (by omega)]
  | succ d ih =>
    intro a st s h0 hd hact hrd h hB
    by_cases hlt : a < to_
    · have hA0 : ∀ kr ∈ A, 0 < kr.2 := fun kr hkr => (hA kr hkr).2.1
      have htle := tot_le (A := A) (fun kr hkr => (hA kr hkr).2.2)
      by_cases he : A = []
      · -- nothing is open
        have e : sim q ord act a (to_ - a).toNat s = s := sim_idle _ _ (fun j hj => Or.inl (by rw [hact _ (by omega) (by omega), he]))
        rw [e]
        refine ⟨st, fun K hK => ?_, h⟩
        obtain ⟨K, rfl⟩ : ∃ K', K = K' + 1 := ⟨K - 1, by omega⟩
        unfold stretchX
        rw [if_pos hlt, he, if_neg (by simp [tot])]
      · have htp := tot_pos hA0 he
        have hOK := topOK_of hg ho h
        have hV := topV_is ho h a
        cases htop : top q ord s.left a with
        | none =>
          rw [htop] at hV
          simp only at hV
          have e : sim q ord act a (to_ - a).toNat s = s := sim_idle _ _ (fun j hj => Or.inr (by
            rw [top_none ho] at htop ⊢
            intro i hi
            have h1 := htop i hi
            rw [← Bool.not_eq_true, avail_iff] at h1 ⊢
            rw [hrd _ (by omega) (by omega)]
            exact h1))
          rw [e]
          refine ⟨st, fun K hK => ?_, h⟩
          obtain ⟨K, rfl⟩ : ∃ K', K = K' + 1 := ⟨K - 1, by omega⟩
          unfold stretchX
          rw [if_pos hlt, if_pos (by omega), if_pos hOK, hV, if_pos (by omega)]
        | some i =>
          rw [htop] at hV
          simp only at hV
          obtain ⟨hp, _, hmem⟩ := top_pos htop
          have hi := (ho.all i).1 hmem
          have hL := leftV_is hg h hi
          have hsz := hg.size i
          have hnn := h.nn i hi
          have hdv : 0 ≤ (s.left.getD i 0 - 1) / tot A := Int.ediv_nonneg (by omega) (by omega)
          have hdm := Int.ediv_mul_le (s.left.getD i 0 - 1) (show tot A ≠ 0 by omega)
          have hdl : (s.left.getD i 0 - 1) / tot A ≤ s.left.getD i 0 - 1 := Int.ediv_le_self _ (by omega)
          obtain ⟨v, hv⟩ : ∃ v, v = (s.left.getD i 0 - 1) / tot A := ⟨_, rfl⟩
          have hS : stepV q st (i : Int) a to_ (tot A) = min (to_ - a) v := by
            unfold stepV
            rw [hL, w64 (x := to_ - a) (by omega) (by omega), w64 (x := s.left.getD i 0 - 1) (by omega) (by omega), Int.tdiv_eq_ediv_of_nonneg (by omega), ← hv, w64 (x := v) (by omega) (by omega), mn_min]
          rw [← hv] at hdv hdm hdl
          have hph : s.parts.length + A.length < 1000000000 := by unfold phi at hB; omega
          by_cases hn : 0 < v
          · -- whole milliseconds of this item alone
            obtain ⟨m, hm⟩ : ∃ m : Nat, (m : Int) = min (to_ - a) v := ⟨(min (to_ - a) v).toNat, by omega⟩
            have hml : (m : Int) * tot A ≤ s.left.getD i 0 := by
              have h1 : (m : Int) * tot A ≤ v * tot A := Int.mul_le_mul_of_nonneg_right (by omega) (by omega)
              omega
            obtain ⟨st1, r1, r2⟩ := giveAll_sim (frm := a) (to_ := a + m) (n := m) hg hi (by omega) A (fun kr hkr => ⟨(hA kr hkr).1, (hA kr hkr).2.1⟩) h hml hph
            have hj := sim_jump (act := act) hA0 he hnd htop m (by omega) (fun j hj => hact _ (by omega) (by omega)) (fun j hj i => hrd _ (by omega) (by omega) i) hml
            have hph2 := sim_phi (q := q) (ord := ord) hN m a s h0
            rw [hj] at hph2
            obtain ⟨st2, r3, r4⟩ := ih (a + m) (by omega) (by omega) (fun t h1 h2 => hact t (by omega) h2) (fun t h1 h2 i => (hrd t (by omega) h2 i).trans (hrd (a + m) (by omega) (by omega) i).symm) r2 (by omega)
            refine ⟨st2, fun K hK => ?_, ?_⟩
            · obtain ⟨K, rfl⟩ : ∃ K', K = K' + 1 := ⟨K - 1, by omega⟩
              unfold stretchX
              rw [if_pos hlt, if_pos (by omega), if_pos hOK, hV, if_neg (by omega), if_pos (by omega), hS, if_pos (by omega), ← hm, w64 (x := a + m) (by omega) (by omega), r1, Option.bind_some]
              exact r3 K (by omega)
            · have e : (to_ - a).toNat = m + (to_ - (a + m)).toNat := by omega
              rw [e, sim_add, hj]
              exact r4
          · -- one by one
            have e0 : min (to_ - a) v = 0 := by omega
            obtain ⟨st1, r1, r2⟩ := tick_sim hg ho (t := a) ⟨h0, by omega⟩ A (fun kr hkr => ⟨(hA kr hkr).1, by have := (hA kr hkr).2.1; omega, (hA kr hkr).2.2⟩) h (by omega)
            have hph2 := sim_phi (q := q) (ord := ord) hN 1 a s h0
            rw [sim_one, hact a (Int.le_refl _) hlt] at hph2
            obtain ⟨st2, r3, r4⟩ := ih (a + 1) (by omega) (by omega) (fun t h1 h2 => hact t (by omega) h2) (fun t h1 h2 i => (hrd t (by omega) h2 i).trans (hrd (a + 1) (by omega) (by omega) i).symm) r2 (by simp only [Int.natCast_one] at hph2; omega)
            refine ⟨st2, fun K hK => ?_, ?_⟩
            · obtain ⟨K, rfl⟩ : ∃ K', K = K' + 1 := ⟨K - 1, by omega⟩
              unfold stretchX
              rw [if_pos hlt, if_pos (by omega), if_pos hOK, hV, if_neg (by omega), if_pos (by omega), hS, if_neg (by omega), r1 K (by omega), Option.bind_some, w64 (x := a + 1) (by omega) (by omega)]
              exact r3 K (by omega)
            · have e : (to_ - a).toNat = (to_ - (a + 1)).toNat + 1 := by omega
              rw [e]
              show Sim q ord bk W st2 (sim q ord act (a + 1) (to_ - (a + 1)).toNat (tickA q ord a (act a) s))
              rw [hact a (Int.le_refl _) hlt]
              exact r4
    · rw [show (to_ - a).toNat = 0 by omega]
      refine ⟨st, fun K hK => ?_, h⟩
      obtain ⟨K, rfl⟩ : ∃ K', K = K' + 1 := ⟨K - 1, by omega⟩
      unfold stretchX
      rw [if_neg hlt]
end
theorem tot_app (A B : List (Int × Int)) : tot (A ++ B) = tot A + tot B := by simp [tot]
theorem actOf_cons (ss : Int → List S81) (t k : Int) (r : List Int) : actOf (k :: r) ss t = if 0 < rS (ss k) t then (k, rS (ss k) t) :: actOf r ss t else actOf r ss t := by
  unfold actOf
  rw [List.map_cons, List.filter_cons]
  by_cases h : 0 < rS (ss k) t <;> simp [h]
theorem rS_bd {ss : List S81} {t B : Int} (h : ∀ s ∈ ss, 0 ≤ s.f2 ∧ s.f2 ≤ B) (hB : 0 ≤ B) : 0 ≤ rS ss t ∧ rS ss t ≤ B := by
  unfold rS
  cases hf : ss.find? (fun s => decide (s.f0 ≤ t) && decide (t < s.f1)) with
  | none => simp only; omega
  | some s => exact h s (List.mem_of_find?_eq_some hf)
/-- What is told of the stretches of booked passes. -/
structure Ways (bk : List Int) (ss : Int → List S81) : Prop where
  line : ∀ k ∈ bk, InLine (ss k)
  rate : ∀ k ∈ bk, ∀ s ∈ ss k, 0 ≤ s.f2 ∧ s.f2 ≤ 1000000
/-- The passes that are open. -/
theorem openX_is {bk : List Int} {ss : Int → List S81} (hw : Ways bk ss) {t0 t : Int} (ht : t0 ≤ t) : ∀ (r pre : List Int) (st : SX) (A : List (Int × Int)), (∀ k ∈ r, k ∈ bk) →
    st.ways = pre.map (fun k => popTo t (ss k)) ++ r.map (fun k => popTo t0 (ss k)) → 0 ≤ tot A → tot A + 1000000 * r.length ≤ 1000000000000 →
    openX t r pre.length st A (tot A) = some (stW st ((pre ++ r).map (fun k => popTo t (ss k))), A ++ actOf r ss t, tot (A ++ actOf r ss t))
  | [], pre, st, A, _, hst, h0, hb => by
    unfold openX
    simp only [List.map_nil, List.append_nil] at hst ⊢
    rw [show actOf [] ss t = [] from rfl, List.append_nil, ← hst]
    rfl
  | k :: r, pre, st, A, hk, hst, h0, hb => by
    have hkb := hk k List.mem_cons_self
    obtain ⟨b1, b2⟩ := rS_bd (t := t) (hw.rate k hkb) (by omega)
    have hlen : pre.length < st.ways.length := by rw [hst]; simp
    have hget : st.ways.getD pre.length [] = popTo t0 (ss k) := by
      rw [hst, List.getD_eq_getElem?_getD, List.getElem?_append_right (by simp)]
      simp
    have hpop : popT t (popTo t0 (ss k)) = popTo t (ss k) := pop_pop ht (ss k)
    have hrate : rateT (popTo t (ss k)) t = rS (ss k) t := rate_pop (hw.line k hkb)
    have hset : st.ways.set pre.length (popTo t (ss k)) = (pre ++ [k]).map (fun k => popTo t (ss k)) ++ r.map (fun k => popTo t0 (ss k)) := by
      rw [hst, List.map_cons, List.map_append, List.set_append_right _ _ (by simp)]
      simp
    simp only [List.length_cons] at hb
    have hlen2 : pre.length + 1 = (pre ++ [k]).length := by simp
    unfold openX
    rw [if_pos hlen, hget, hpop, hrate, actOf_cons]
    have hk' : ∀ x ∈ r, x ∈ bk := fun x hx => hk x (List.mem_cons_of_mem _ hx)
    by_cases h : rS (ss k) t > 0
    · have ih := openX_is hw ht r (pre ++ [k]) (stW st (st.ways.set pre.length (popTo t (ss k)))) (A ++ [(k, rS (ss k) t)]) hk' hset (by rw [tot_app]; simp [tot] at h0 ⊢; omega) (by rw [tot_app]; simp [tot] at hb ⊢; omega)
      rw [tot_app, show tot [(k, rS (ss k) t)] = rS (ss k) t by simp [tot], ← hlen2] at ih
      rw [if_pos h, if_pos h, w64 (by omega) (by omega), ih]
      simp only [List.append_assoc, List.singleton_append]
      rfl
    · have ih := openX_is hw ht r (pre ++ [k]) (stW st (st.ways.set pre.length (popTo t (ss k)))) A hk' hset h0 (by omega)
      rw [← hlen2] at ih
      rw [if_neg h, if_neg h, ih]
      simp only [List.append_assoc, List.singleton_append]
      rfl
theorem actOf_len (bk : List Int) (ss : Int → List S81) (t : Int) : (actOf bk ss t).length ≤ bk.length := by
  unfold actOf
  have := List.length_filter_le (fun kr : Int × Int => decide (0 < kr.2)) (bk.map fun k => (k, rS (ss k) t))
  simpa using this
/-- The moments at which something turns. -/
structure Moms (q : List S63) (bk : List Int) (ss : Int → List S81) (ts : List Int) : Prop where
  up : ts.Pairwise (· < ·)
  bd : ∀ x ∈ ts, 0 ≤ x
  way : ∀ k ∈ bk, ∀ s ∈ ss k, s.f0 ∈ ts ∧ s.f1 ∈ ts
  item : ∀ i, i < q.length → (q.getD i z63).f3 ∈ ts
theorem Sim.ways' {q : List S63} {ord : List Nat} {bk : List Int} {W W' : List (List S81)} {st : SX} {s : St} (h : Sim q ord bk W st s) : Sim q ord bk W' (stW st W') s :=
  ⟨h.ord, h.slen, h.llen, h.dlen, h.sent, h.nn, h.done, h.rows, h.nums, h.some_, h.none_, rfl, h.ismap, h.size⟩
section
variable {q : List S63} {ord : List Nat} {bk : List Int} {ss : Int → List S81} {N : Int → Nat} {ts : List Int} {u : Int}
theorem rd_drop {l : List Int} {i : Nat} {a : Int} {r : List Int} (h : l.drop i = a :: r) : rd l (i : Int) = a ∧ l[i]? = some a ∧ l.drop (i + 1) = r := by
  have h1 : l[i]? = some a := by
    have : (l.drop i)[0]? = some a := by rw [h]; rfl
    rw [List.getElem?_drop] at this
    exact this
  refine ⟨?_, h1, ?_⟩
  · unfold rd
    rw [Int.toNat_natCast, List.getD_eq_getElem?_getD, h1]
    rfl
  · have : (l.drop i).drop 1 = r := by rw [h]; rfl
    rw [List.drop_drop] at this
    exact this
theorem run_sim (hg : Good q bk) (ho : Ord q ord) (hw : Ways bk ss) (hbk : bk.Pairwise (· < ·)) (hbl : bk.length ≤ 1000) (hm : Moms q bk ss ts) (hN : Rest (actOf bk ss) N) (hu : 0 ≤ u ∧ u ≤ 1000000000000) :
    ∀ (d i : Nat) (t0 : Int) {st : SX} {s : St}, i + d = ts.length → (∀ x ∈ ts.drop i, t0 ≤ x) → Sim q ord bk (bk.map fun k => popTo t0 (ss k)) st s → (∀ a ∈ (ts.drop i).head?, phi s + N a + 2000 ≤ 1000000000) →
    ∃ st' W', (∀ K, u.toNat + q.length + 4 ≤ K → runGo q bk u K ts d i st = some st') ∧ Sim q ord bk W' st' (cover q ord (actOf bk ss) u (ts.drop i) s) := by
  intro d
  induction d with
  | zero =>
    intro i t0 st s hi h0 h hB
    rw [List.drop_of_length_le (by omega)]
    exact ⟨st, _, fun K _ => rfl, h⟩
  | succ d ih =>
    intro i t0 st s hi h0 h hB
    have hlt : i < ts.length := by omega
    obtain ⟨a, r, har⟩ : ∃ a r, ts.drop i = a :: r := ⟨_, _, List.drop_eq_getElem_cons hlt⟩
    obtain ⟨e1, e2, e3⟩ := rd_drop har
    rw [har] at hB h0
    have hB' := hB a rfl
    have h0a := h0 a List.mem_cons_self
    have ha := hm.bd a (List.mem_of_getElem? e2)
    have hopen := openX_is hw h0a bk [] st [] (fun k hk => hk) (by rw [h.ways]; rfl) (by simp [tot]) (by simp [tot]; omega)
    simp only [List.length_nil, List.nil_append] at hopen
    rw [show tot [] = 0 from rfl] at hopen
    have h1 : Sim q ord bk (bk.map fun k => popTo a (ss k)) (stW st (bk.map fun k => popTo a (ss k))) s := h.ways'
    have hAall : ∀ kr ∈ actOf bk ss a, kr.1 ∈ bk ∧ 0 < kr.2 ∧ kr.2 ≤ 1000000 := fun kr hkr => by
      obtain ⟨k, rr⟩ := kr
      have h1 := actOf_pos _ hkr
      obtain ⟨h2, h3⟩ := actOf_mem hkr
      exact ⟨h2, h1, by simp only; rw [h3]; exact (rS_bd (hw.rate k h2) (by omega)).2⟩
    have hnd := actOf_nodup (ss := ss) (t := a) hbk
    have hal := actOf_len bk ss a
    -- between this moment and a later one before which none stands
    have same : ∀ t : Int, a ≤ t → (∀ x ∈ ts, x ≤ a ∨ t < x) → actOf bk ss t = actOf bk ss a ∧ ∀ j : Nat, (q.getD j z63).f3 ≤ t ↔ (q.getD j z63).f3 ≤ a := fun t hat hx => by
      refine ⟨actOf_same (fun k hk => rS_same (fun sg hsg => ?_)), fun j => ?_⟩
      · obtain ⟨g1, g2⟩ := hm.way k hk sg hsg
        have := hx _ g1
        have := hx _ g2
        exact ⟨by omega, by omega⟩
      · by_cases hj : j < q.length
        · have := hx _ (hm.item j hj)
          omega
        · rw [List.getD_eq_getElem?_getD, List.getElem?_eq_none (by omega)]
          show (0 : Int) ≤ t ↔ (0 : Int) ≤ a
          omega
    cases r with
    | nil =>
      have hend : ¬ (i : Int) + 1 < (ts.length : Int) := by
        have : (ts.drop i).length = 1 := by rw [har]; rfl
        rw [List.length_drop] at this
        omega
      have hx : ∀ t : Int, a ≤ t → ∀ x ∈ ts, x ≤ a ∨ t < x := fun t _ x hx => Or.inl (last_all hm.up e2 (by omega) hx)
      obtain ⟨st1, r1, r2⟩ := stretch_sim (act := actOf bk ss) (to_ := u) hg ho hN hAall hnd (by omega) hu.2 (u - a).toNat a ha (Nat.le_refl _) (fun t h1 h2 => (same t h1 (hx t h1)).1) (fun t h1 h2 j => (same t h1 (hx t h1)).2 j) h1 hB'
      have hd : d = 0 := by
        have : (ts.drop i).length = 1 := by rw [har]; rfl
        rw [List.length_drop] at this
        omega
      subst hd
      refine ⟨st1, _, fun K hK => ?_, by rw [har]; exact r2⟩
      unfold runGo
      rw [e1, hopen, Option.bind_some, if_neg hend]
      simp only
      rw [r1 K (by omega), Option.bind_some]
      rfl
    | cons b r =>
      have hnext : (i : Int) + 1 < (ts.length : Int) := by
        have : (ts.drop i).length = r.length + 2 := by rw [har]; rfl
        rw [List.length_drop] at this
        omega
      obtain ⟨f1, f2, f3⟩ := rd_drop e3
      have hab : a < b := by
        have := hm.up
        rw [← List.take_append_drop i ts, har] at this
        exact (List.pairwise_cons.1 (List.pairwise_append.1 this).2.1).1 b List.mem_cons_self
      have hx : ∀ t : Int, a ≤ t → t < min u b → ∀ x ∈ ts, x ≤ a ∨ t < x := fun t h1 h2 x hx => by
        have := next_none hm.up e2 f2 hx
        omega
      obtain ⟨st1, r1, r2⟩ := stretch_sim (act := actOf bk ss) (to_ := min u b) hg ho hN hAall hnd (by omega) (by omega) (min u b - a).toNat a ha (Nat.le_refl _) (fun t h1 h2 => (same t h1 (hx t h1 h2)).1) (fun t h1 h2 j => (same t h1 (hx t h1 h2)).2 j) h1 hB'
      have hph := sim_phi (q := q) (ord := ord) hN (min u b - a).toNat a s ha
      have hNb := hN.le (a := a + ((min u b - a).toNat : Int)) (b := b) (by omega) (by omega)
      obtain ⟨st2, W2, r3, r4⟩ := ih (i + 1) a (by omega) (fun x hx => by
        rw [e3] at hx
        have := hm.up
        rw [← List.take_append_drop i ts, har] at this
        have := (List.pairwise_cons.1 (List.pairwise_append.1 this).2.1).1 x hx
        omega) r2 (fun x hx => by
        rw [e3] at hx
        obtain rfl : b = x := by simpa using hx
        omega)
      refine ⟨st2, W2, fun K hK => ?_, by rw [har]; rw [e3] at r4; exact r4⟩
      unfold runGo
      rw [e1, hopen, Option.bind_some, if_pos hnext, show ((i : Int) + 1) = ((i + 1 : Nat) : Int) by omega, f1, mn_min]
      simp only
      rw [r1 K (by omega), Option.bind_some]
      exact r3 K hK
end
end Snd
end Go.Proofs.Ytbngmblgkkdhpaa.Q
