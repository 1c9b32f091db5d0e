/- Sending: while something that is ready is left, all that goes is sent. -/
-- Made by wip/tools/claimp.py of this session's texts; Lean checks it.
import Derived.Test.YtbngmblgkkdhpaaC9SndM
set_option linter.unusedVariables false
set_option linter.unusedSimpArgs false
namespace Go.Proofs.Ytbngmblgkkdhpaa.Q
open Go.RowKit Go.Proofs.YtbngmblgkkdhpaaW.PrintWords Go.Proofs.YtbngmblgkkdhpaaW.PrintLast Go.Proofs.YtbngmblgkkdhpaaW.PrintMore Go.Proofs.Ytbngmblgkkdhpaa.Base
namespace Snd
def sumN (f : Nat → Int) : Nat → Int
  | 0 => 0
  | n + 1 => sumN f n + f n
theorem sumN_same {f g : Nat → Int} : ∀ n : Nat, (∀ i, i < n → f i = g i) → sumN f n = sumN g n
  | 0, _ => rfl
  | n + 1, h => by
    unfold sumN
    rw [sumN_same n (fun i hi => h i (by omega)), h n (by omega)]
theorem sumN_add (f g : Nat → Int) : ∀ n : Nat, sumN (fun i => f i + g i) n = sumN f n + sumN g n
  | 0 => rfl
  | n + 1 => by
    unfold sumN
    rw [sumN_add f g n]
    omega
theorem sumN_sub (f g : Nat → Int) : ∀ n : Nat, sumN (fun i => f i - g i) n = sumN f n - sumN g n
  | 0 => rfl
  | n + 1 => by
    unfold sumN
    rw [sumN_sub f g n]
    omega
theorem sumN_bd {f : Nat → Int} {B : Int} : ∀ n : Nat, (∀ i, i < n → 0 ≤ f i ∧ f i ≤ B) → 0 ≤ sumN f n ∧ sumN f n ≤ n * B
  | 0, _ => by simp [sumN]
  | n + 1, h => by
    have ih := sumN_bd n (fun i hi => h i (by omega))
    have h1 := h n (by omega)
    unfold sumN
    rw [show ((n + 1 : Nat) : Int) = (n : Int) + 1 by omega, Int.add_mul, Int.one_mul]
    omega
theorem sumN_take (l : List Int) : ∀ n : Nat, n ≤ l.length → sumN (fun i => l.getD i 0) n = (l.take n).sum
  | 0, _ => rfl
  | n + 1, h => by
    unfold sumN
    rw [sumN_take l n (by omega), List.take_succ_eq_append_getElem (by omega), List.sum_append, getD_at (by omega)]
    simp
theorem sum_set : ∀ {l : List Int} {i : Nat} (v : Int), i < l.length → (l.set i v).sum = l.sum - l.getD i 0 + v
  | x :: l, 0, v, _ => by simp; omega
  | x :: l, i + 1, v, h => by
    have := sum_set (l := l) (i := i) v (by simpa using h)
    simp only [List.set_cons_succ, List.sum_cons, List.getD_cons_succ, this]
    omega
section
variable {q : List S63} {ord : List Nat} {act : Int → List (Int × Int)}
theorem serve_takes {t k : Int} {s : St} {r : Int} (hr : 0 ≤ r) (hl : s.left.length = q.length) : (serve q ord t k (q.length + 1) s r).left.sum = s.left.sum - r ∨ top q ord (serve q ord t k (q.length + 1) s r).left t = none := by
  have hc := cnt_le s.left
  exact serve_ind (q := q) (ord := ord) (t := t) (k := k) (fun s room s' => 0 ≤ room → s'.left.sum = s.left.sum - room ∨ top q ord s'.left t = none) (fun s room h h0 => Or.inl (by omega)) (fun s room h ht _ => Or.inr ht) (fun s room i r h ht ih h0 => by
    obtain ⟨hp, _, _⟩ := top_pos ht
    have hi := getD_pos_lt hp
    have e : (give q s i k t (t + 1) (min room (s.left.getD i 0))).left.sum = s.left.sum - min room (s.left.getD i 0) := by
      show (s.left.set i (s.left.getD i 0 - min room (s.left.getD i 0))).sum = _
      rw [sum_set _ hi]
      omega
    rcases ih (by omega) with h1 | h1
    · left; omega
    · exact Or.inr h1) (q.length + 1) s r (Or.inl (by omega)) hr
theorem tick_takes {t : Int} : ∀ (A : List (Int × Int)) {s : St}, (∀ kr ∈ A, 0 ≤ kr.2) → s.left.length = q.length → (tickA q ord t A s).left.sum = s.left.sum - tot A ∨ top q ord (tickA q ord t A s).left t = none
  | [], s, _, _ => Or.inl (by simp [tickA, tot])
  | kr :: A, s, hA, hl => by
    show (tickA q ord t A (serve q ord t kr.1 (q.length + 1) s kr.2)).left.sum = _ ∨ top q ord (tickA q ord t A (serve q ord t kr.1 (q.length + 1) s kr.2)).left t = none
    rcases serve_takes (q := q) (ord := ord) (t := t) (k := kr.1) (hA kr List.mem_cons_self) hl with h | h
    · rcases tick_takes (t := t) A (s := serve q ord t kr.1 (q.length + 1) s kr.2) (fun x hx => hA x (List.mem_cons_of_mem _ hx)) (by rw [serve_len]; exact hl) with h2 | h2
      · left
        rw [h2, h, tot_cons]
        omega
      · exact Or.inr h2
    · right
      rw [tickA_none h]
      exact h
theorem serve_left_le {t k : Int} {s : St} {r : Int} (hr : 0 ≤ r) (j : Nat) : (serve q ord t k (q.length + 1) s r).left.getD j 0 ≤ s.left.getD j 0 ∨ ¬ s.left.length = q.length := by
  by_cases hl : s.left.length = q.length
  · left
    have hc := cnt_le s.left
    exact serve_ind (q := q) (ord := ord) (t := t) (k := k) (fun s room s' => s.left.length = q.length → s'.left.getD j 0 ≤ s.left.getD j 0) (fun s room h _ => Int.le_refl _) (fun s room h ht _ => Int.le_refl _) (fun s room i r h ht ih h0 => by
      obtain ⟨hp, _, _⟩ := top_pos ht
      have hi := getD_pos_lt hp
      have h1 := ih (by show (s.left.set i (s.left.getD i 0 - min room (s.left.getD i 0))).length = _; simpa using h0)
      refine Int.le_trans h1 ?_
      show (s.left.set i (s.left.getD i 0 - min room (s.left.getD i 0))).getD j 0 ≤ _
      by_cases e : i = j
      · subst e
        rw [getD_set_self hi]
        omega
      · rw [getD_set_ne e]
        exact Int.le_refl _) (q.length + 1) s r (Or.inl (by omega)) hl
  · exact Or.inr hl
theorem tick_left_le {t : Int} (j : Nat) : ∀ (A : List (Int × Int)) {s : St}, (∀ kr ∈ A, 0 ≤ kr.2) → s.left.length = q.length → (tickA q ord t A s).left.getD j 0 ≤ s.left.getD j 0
  | [], s, _, _ => Int.le_refl _
  | kr :: A, s, hA, hl => by
    have h1 := (serve_left_le (q := q) (ord := ord) (t := t) (k := kr.1) (s := s) (hA kr List.mem_cons_self) j).resolve_right (fun h => h hl)
    exact Int.le_trans (tick_left_le (t := t) j A (s := serve q ord t kr.1 (q.length + 1) s kr.2) (fun x hx => hA x (List.mem_cons_of_mem _ hx)) (by rw [serve_len]; exact hl)) h1
theorem serve_unready {t k : Int} {s : St} {r : Int} {j : Nat} (hj : t < (q.getD j z63).f3) (hl : s.left.length = q.length) : (serve q ord t k (q.length + 1) s r).left.getD j 0 = s.left.getD j 0 := by
  have hc := cnt_le s.left
  exact serve_ind (q := q) (ord := ord) (t := t) (k := k) (fun s room s' => s'.left.getD j 0 = s.left.getD j 0) (fun s room h => rfl) (fun s room h ht => rfl) (fun s room i r h ht ih => by
    obtain ⟨_, hr, _⟩ := top_pos ht
    refine ih.trans ?_
    show (s.left.set i (s.left.getD i 0 - min room (s.left.getD i 0))).getD j 0 = _
    exact getD_set_ne (fun e => by subst e; omega) _) (q.length + 1) s r (Or.inl (by omega))
theorem tick_unready {t : Int} {j : Nat} (hj : t < (q.getD j z63).f3) : ∀ (A : List (Int × Int)) {s : St}, s.left.length = q.length → (tickA q ord t A s).left.getD j 0 = s.left.getD j 0
  | [], s, _ => rfl
  | kr :: A, s, hl => by
    refine (tick_unready hj A (s := serve q ord t kr.1 (q.length + 1) s kr.2) (by rw [serve_len]; exact hl)).trans ?_
    exact serve_unready hj hl
theorem sim_len (n : Nat) : ∀ (t : Int) (s : St), (sim q ord act t n s).left.length = s.left.length := by
  induction n with
  | zero => intro t s; rfl
  | succ n ih =>
    intro t s
    show (sim q ord act (t + 1) n (tickA q ord t (act t) s)).left.length = _
    rw [ih, tick_len]
theorem sim_unready {j : Nat} : ∀ (n : Nat) (t : Int) {s : St}, t + n ≤ (q.getD j z63).f3 → s.left.length = q.length → (sim q ord act t n s).left.getD j 0 = s.left.getD j 0
  | 0, t, s, _, _ => rfl
  | n + 1, t, s, h, hl => by
    show (sim q ord act (t + 1) n (tickA q ord t (act t) s)).left.getD j 0 = _
    rw [sim_unready n (t + 1) (by omega) (by rw [tick_len]; exact hl), tick_unready (by omega) _ hl]
/-- All that goes is sent while an item that is ready is left. -/
theorem sim_takes (ho : Ord q ord) (hA : ∀ t, ∀ kr ∈ act t, 0 ≤ kr.2) {i : Nat} (hi : i < q.length) {t : Int} (hr : (q.getD i z63).f3 ≤ t) : ∀ (n : Nat) {s : St}, s.left.length = q.length → 0 < (sim q ord act t n s).left.getD i 0 →
    (sim q ord act t n s).left.sum = s.left.sum - sumRate (fun t => tot (act t)) t n
  | 0, s, _, _ => by simp [sim, sumRate]
  | n + 1, s, hl, h => by
    rw [sim_snoc] at h ⊢
    have hl' : (sim q ord act t n s).left.length = q.length := by rw [sim_len]; exact hl
    have hle := tick_left_le (q := q) (ord := ord) (t := t + n) i (act (t + n)) (s := sim q ord act t n s) (hA _) hl'
    have ih := sim_takes ho hA hi hr n hl (by omega)
    rcases tick_takes (q := q) (ord := ord) (t := t + n) (act (t + n)) (s := sim q ord act t n s) (hA _) hl' with h2 | h2
    · have es : sumRate (fun t => tot (act t)) t (n + 1) = sumRate (fun t => tot (act t)) t n + tot (act (t + n)) := rfl
      rw [h2, ih, es]
      omega
    · exfalso
      have := (top_none ho).1 h2 i hi
      have ha : avail q (tickA q ord (t + n) (act (t + n)) (sim q ord act t n s)).left (t + n) i = true := avail_iff.2 ⟨by omega, h⟩
      rw [ha] at this
      cases this
end
theorem tot_act {ss : Int → List S81} (hp : ∀ k t, 0 ≤ rS (ss k) t) (t : Int) : ∀ bk : List Int, tot (actOf bk ss t) = (bk.map fun k => rS (ss k) t).sum
  | [] => rfl
  | k :: bk => by
    have ih := tot_act hp t bk
    have h0 := hp k t
    rw [actOf_cons, List.map_cons, List.sum_cons, ← ih]
    by_cases h : 0 < rS (ss k) t
    · rw [if_pos h, tot_cons]
    · rw [if_neg h]
      omega
theorem sumRate_sum (f : Int → Int → Int) (a : Int) (bk : List Int) : ∀ n : Nat, sumRate (fun t => (bk.map fun k => f k t).sum) a n = (bk.map fun k => sumRate (f k) a n).sum
  | 0 => by
    show (0 : Int) = (bk.map fun k => (0 : Int)).sum
    induction bk with
    | nil => rfl
    | cons k bk ih => rw [List.map_cons, List.sum_cons, ← ih]; rfl
  | n + 1 => by
    have ih := sumRate_sum f a bk n
    show sumRate (fun t => (bk.map fun k => f k t).sum) a n + (bk.map fun k => f k (a + n)).sum = (bk.map fun k => sumRate (f k) a n + f k (a + n)).sum
    rw [ih]
    clear ih
    induction bk with
    | nil => rfl
    | cons k bk ih =>
      simp only [List.map_cons, List.sum_cons] at ih ⊢
      omega
end Snd
/-- What is not sent, with no number too large. -/
def bsum (q : List S63) (left : List Int) (a : Int) (n : Nat) : Int := Snd.sumN (fun i => if (q.getD i z63).f3 < a then left.getD i 0 else 0) n
theorem backR_bsum {q : List S63} {left : List Int} (a : Int) (h : ∀ i, i < q.length → 0 ≤ left.getD i 0 ∧ left.getD i 0 ≤ 1000000000000) (hq : q.length ≤ 300) : ∀ n : Nat, n ≤ q.length → backR q left a n = bsum q left a n ∧ 0 ≤ bsum q left a n ∧ bsum q left a n ≤ n * 1000000000000
  | 0, _ => ⟨rfl, by simp [bsum, Snd.sumN], by simp [bsum, Snd.sumN]⟩
  | n + 1, hn => by
    obtain ⟨h1, h2, h3⟩ := backR_bsum a h hq n (by omega)
    have h4 := h n (by omega)
    have e : rd left (n : Int) = left.getD n 0 := by unfold rd; rw [Int.toNat_natCast]
    have eb : bsum q left a (n + 1) = bsum q left a n + if (q.getD n z63).f3 < a then left.getD n 0 else 0 := rfl
    unfold backR
    rw [e, rd_I, h1, eb, show ((n + 1 : Nat) : Int) = (n : Int) + 1 by omega, Int.add_mul, Int.one_mul]
    by_cases c : (q.getD n z63).f3 < a
    · rw [if_pos c, if_pos c, w64 (by omega) (by omega)]
      omega
    · rw [if_neg c, if_neg c]
      omega
def fresh (q : List S63) (r : Int) (n : Nat) : Int := Snd.sumN (fun i => if (q.getD i z63).f3 ≥ r ∧ (q.getD i z63).f3 < 1000000000000 then (q.getD i z63).f1 else 0) n
def canV (ps : List S33) (bk : List Int) (r : Int) (n : Nat) : Int := Snd.sumN (fun i => volV (rd_T33 ps (rd bk i)) r (rd_T33 ps (rd bk i)).f2) n
theorem waste_sum {q : List S63} {A B : List Int} {r C : Int} (hr : r ≤ 1000000000000) (u1 : ∀ i, i < q.length → r ≤ (q.getD i z63).f3 → A.getD i 0 = (q.getD i z63).f1) (u2 : ∀ i, i < q.length → 1000000000000 ≤ (q.getD i z63).f3 → B.getD i 0 = (q.getD i z63).f1)
    (lA : A.length = q.length) (lB : B.length = q.length) (ht : B.sum = A.sum - C) : bsum q A r q.length + fresh q r q.length - bsum q B 1000000000000 q.length = C := by
  have s1 := Snd.sumN_take A q.length (by omega)
  have s2 := Snd.sumN_take B q.length (by omega)
  rw [List.take_of_length_le (by omega)] at s1 s2
  have e : bsum q A r q.length + fresh q r q.length - bsum q B 1000000000000 q.length = Snd.sumN (fun i => A.getD i 0) q.length - Snd.sumN (fun i => B.getD i 0) q.length := by
    unfold bsum fresh
    rw [← Snd.sumN_add, ← Snd.sumN_sub, ← Snd.sumN_sub]
    refine Snd.sumN_same q.length fun i hi => ?_
    have v1 := u1 i hi
    have v2 := u2 i hi
    by_cases c1 : (q.getD i z63).f3 < r
    · rw [if_pos c1, if_neg (fun hc => by omega), if_pos (by omega)]
      omega
    · rw [if_neg c1]
      by_cases c2 : (q.getD i z63).f3 < 1000000000000
      · rw [if_pos ⟨by omega, c2⟩, if_pos c2, v1 (by omega)]
        omega
      · rw [if_neg (fun hc => c2 hc.2), if_neg c2, v1 (by omega), v2 (by omega)]
        omega
  rw [e, s1, s2, ht]
  omega
namespace Ready
variable {ps : List S33} {bk : List Int} {q : List S63}
theorem len (h : Ready ps bk q) (u : Int) : (stOf ps bk q u).left.length = q.length := by
  unfold stOf
  rw [Snd.sim_len]
  unfold Snd.start
  simp
theorem act_nn (t : Int) : ∀ kr ∈ Snd.actOf bk (ssOf ps) t, 0 ≤ kr.2 := fun kr hkr => Int.le_of_lt (Snd.actOf_pos _ hkr)
theorem st_from (h : Ready ps bk q) {r : Int} (hr : 0 ≤ r ∧ r ≤ 1000000000000) : stOf ps bk q 1000000000000 = Snd.sim q (ordN q) (Snd.actOf bk (ssOf ps)) r (1000000000000 - r).toNat (stOf ps bk q r) := by
  unfold stOf
  have e : (1000000000000 : Int).toNat = r.toNat + (1000000000000 - r).toNat := by omega
  rw [e, Snd.sim_add, show (0 : Int) + (r.toNat : Int) = r by omega]
theorem unready (h : Ready ps bk q) {u : Int} (hu : 0 ≤ u) {i : Nat} (hi : i < q.length) (hr : u ≤ (q.getD i z63).f3) : (stOf ps bk q u).left.getD i 0 = (q.getD i z63).f1 := by
  unfold stOf
  rw [Snd.sim_unready u.toNat 0 (by omega) (by unfold Snd.start; simp)]
  show (q.map (fun x : S63 => x.f1)).getD i 0 = _
  rw [Snd.getD_map (α := Int) hi]
/-- What goes from a moment on. -/
theorem can_is (h : Ready ps bk q) {r : Int} (hr : 0 ≤ r ∧ r ≤ 1000000000000) : Snd.sumRate (fun t => Snd.tot (Snd.actOf bk (ssOf ps) t)) r (1000000000000 - r).toNat = canV ps bk r bk.length := by
  have e1 : (fun t => Snd.tot (Snd.actOf bk (ssOf ps) t)) = (fun t => (bk.map fun k => Snd.rS (ssOf ps k) t).sum) := funext fun t => Snd.tot_act (fun k t => rS_nn _ _ t) t bk
  rw [e1, Snd.sumRate_sum (fun k t => Snd.rS (ssOf ps k) t)]
  have e2 : bk.map (fun k => Snd.sumRate (Snd.rS (ssOf ps k)) r (1000000000000 - r).toNat) = bk.map (fun k => volV (rd_T33 ps k) r (rd_T33 ps k).f2) := by
    refine List.map_congr_left fun k hk => ?_
    have g := h.pass hk
    have h4 := Snd.sumS_rate (ss := ssOf ps k) (g.line _ (Nat.le_refl _)) r (1000000000000 - r).toNat
    rw [← h4, sumS_same, show r + ((1000000000000 - r).toNat : Int) = 1000000000000 by omega]
    unfold volV
    have all : ∀ l : List S81, (∀ s ∈ l, s ∈ ssOf ps k) → sumS r 1000000000000 l = sumS r (rd_T33 ps k).f2 l := by
      intro l
      induction l with
      | nil => exact fun _ => rfl
      | cons s l ih =>
        intro hl
        have hs := hl s List.mem_cons_self
        have g0 := g.stretches _ (Nat.le_refl _) s hs
        have g1 := (h.long.inside k hk s hs).2
        have g2 := g0.hi
        unfold sumS
        rw [ih (fun x hx => hl x (List.mem_cons_of_mem _ hx))]
        have ep : partV s r 1000000000000 = partV s r (rd_T33 ps k).f2 := by
          unfold partV
          congr 1
          unfold mx mn
          (repeat' split) <;> omega
        rw [ep]
    exact all _ (fun s hs => hs)
  rw [e2]
  unfold canV
  have e3 : ∀ n : Nat, n ≤ bk.length → Snd.sumN (fun i => volV (rd_T33 ps (rd bk i)) r (rd_T33 ps (rd bk i)).f2) n = ((bk.take n).map (fun k => volV (rd_T33 ps k) r (rd_T33 ps k).f2)).sum := by
    intro n
    induction n with
    | zero => intro _; rfl
    | succ n ih =>
      intro hn
      unfold Snd.sumN
      rw [ih (by omega), List.take_succ_eq_append_getElem (by omega), List.map_append, List.sum_append, rd_get (by omega)]
      simp
  rw [e3 bk.length (Nat.le_refl _), List.take_length]
/-- Nothing is wasted. -/
theorem wastes (h : Ready ps bk q) {n : Nat} (hn : n < q.length) {A B : List Int} {r : Int} (hre : r = (q.getD n z63).f3) (hA : A = (stOf ps bk q r).left) (hB : B = (stOf ps bk q 1000000000000).left) (hl : 0 < B.getD n 0) :
    bsum q A r q.length + fresh q r q.length - bsum q B 1000000000000 q.length = canV ps bk r bk.length := by
  have hr : 0 ≤ r ∧ r ≤ 1000000000000 := by
    have := (h.items.all n).ready
    rw [← hre] at this
    exact this
  have u1 : ∀ i, i < q.length → r ≤ (q.getD i z63).f3 → A.getD i 0 = (q.getD i z63).f1 := fun i hi hc => by rw [hA]; exact h.unready hr.1 hi hc
  have u2 : ∀ i, i < q.length → 1000000000000 ≤ (q.getD i z63).f3 → B.getD i 0 = (q.getD i z63).f1 := fun i hi hc => by rw [hB]; exact h.unready (by decide) hi hc
  have lA : A.length = q.length := by rw [hA]; exact h.len r
  have lB : B.length = q.length := by rw [hB]; exact h.len 1000000000000
  have ht : B.sum = A.sum - canV ps bk r bk.length := by
    have hf := h.st_from hr
    rw [hB, hA, ← h.can_is hr, hf]
    refine Snd.sim_takes (act := Snd.actOf bk (ssOf ps)) (ordN_ord q) act_nn hn (t := r) (Int.le_of_eq hre.symm) (1000000000000 - r).toNat (h.len r) ?_
    rw [← hf, ← hB]
    exact hl
  exact waste_sum hr.2 u1 u2 lA lB ht
end Ready
end Go.Proofs.Ytbngmblgkkdhpaa.Q
