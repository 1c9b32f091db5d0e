/- The reference's best booking: backwards from the last pass; it is the same one. -/
-- Made by wip/tools/claimp.py of this session's texts; Lean checks it.
import Derived.Test.YtbngmblgkkdhpaaDoorC7Best2
import Derived.Test.YtbngmblgkkdhpaaDoorC7BookR
import Derived.Test.YtbngmblgkkdhpaaDoorC7Gd18
import Derived.Test.YtbngmblgkkdhpaaDoorC7Gd14
set_option linter.unusedVariables false
set_option linter.unusedSimpArgs false
namespace Go.Proofs.YtbngmblgkkdhpaaDoor.Q
open Go.RowKit Go.Proofs.YtbngmblgkkdhpaaDoorW.PrintWords Go.Proofs.YtbngmblgkkdhpaaDoorW.PrintLast Go.Proofs.YtbngmblgkkdhpaaDoorW.PrintMore Go.Proofs.YtbngmblgkkdhpaaDoor.Base
theorem perigeeref10_exclude_eq2 {a b : S55} (ha : GoodPass a) (hb : GoodPass b) {gap : Int} (hg : 0 ≤ gap ∧ gap ≤ 10000000) : perigeeref10_exclude.f a.f0 a.f1 a.f2 a.f3 b.f0 b.f1 b.f2 b.f3 gap = some (exclV a b gap) := by
  have := ha.to1; have := hb.to1; have := ha.from0; have := hb.from0; have := ha.less; have := hb.less
  unfold perigeeref10_exclude.f exclV
  rw [w64 (x := a.f2 + gap) (by omega) (by omega), w64 (x := b.f2 + gap) (by omega) (by omega)]
  by_cases h : b.f1 < a.f2 + gap <;> by_cases h2 : a.f1 < b.f2 + gap <;> simp [h, h2]
theorem rd_drop2 {l : List Int} {i : Nat} (h : i < l.length) : l.drop i = rd l (i : Int) :: l.drop (i + 1) := by
  rw [List.drop_eq_getElem_cons h]
  unfold rd
  simp [List.getD_eq_getElem?_getD, List.getElem?_eq_getElem h]
/-- lists of one length, by their first difference -/
theorem lessList_is (a b : List Int) (ha : a.length ≤ 1000) (hb : b.length ≤ 1000) (he : a.length = b.length) : ∃ r, Ev (fun k => perigeeref10_lessList.f k a b) r ∧ (r = true → lexLe a b) ∧ (r = false → lexLe b a) := by
  simp only [perigeeref10_lessList.f]
  have main : ∀ d i : Nat, i + d = a.length → ∃ r, Ev (fun k => perigeeref10_lessList.l0 k a b (i : Int)) r ∧ (r = true → lexLe (a.drop i) (b.drop i)) ∧ (r = false → lexLe (b.drop i) (a.drop i)) := by
    intro d
    induction d with
    | zero =>
      intro i hi
      have ea : a.drop i = [] := List.drop_of_length_le (by omega)
      have eb : b.drop i = [] := List.drop_of_length_le (by omega)
      refine ⟨false, Ev.step (fun k => perigeeref10_lessList.l0.eq_2 ..) ?_, fun q => by simp at q, fun _ => by rw [eb]; trivial⟩
      simp only [if_neg (show ¬ (i : Int) < (a.length : Int) by omega)]
      refine Ev.step (fun k => perigeeref10_lessList.j1.eq_2 ..) ?_
      simp only [if_neg Bool.false_ne_true, decide_eq_false (show ¬ (a.length : Int) < (b.length : Int) by omega)]
      exact Ev.now _
    | succ d ih =>
      intro i hi
      have ea := rd_drop2 (l := a) (i := i) (by omega)
      have eb := rd_drop2 (l := b) (i := i) (by omega)
      by_cases h0 : rd a (i : Int) = rd b (i : Int)
      · obtain ⟨v, hv, h1, h2⟩ := ih (i + 1) (by omega)
        refine ⟨v, Ev.step (fun k => perigeeref10_lessList.l0.eq_2 ..) ?_, fun q => by rw [ea, eb]; exact .inr ⟨h0, h1 q⟩, fun q => by rw [ea, eb]; exact .inr ⟨h0.symm, h2 q⟩⟩
        simp only [if_pos (show (i : Int) < (a.length : Int) by omega), decide_eq_true (show (i : Int) < (b.length : Int) by omega)]
        refine Ev.step (fun k => perigeeref10_lessList.j1.eq_2 ..) ?_
        simp only [if_true, if_pos (show (i : Int) < (a.length : Int) by omega), if_pos (show (i : Int) < (b.length : Int) by omega), if_pos (show (0 : Int) ≤ (i : Int) by omega), if_pos h0, w64 (x := (i : Int) + 1) (by omega) (by omega)]
        exact hv
      · refine ⟨decide (rd a (i : Int) < rd b (i : Int)), Ev.step (fun k => perigeeref10_lessList.l0.eq_2 ..) ?_, fun q => by rw [ea, eb]; exact .inl (by simpa using q), fun q => by rw [ea, eb]; exact .inl (by have : ¬ rd a (i : Int) < rd b (i : Int) := of_decide_eq_false q; omega)⟩
        simp only [if_pos (show (i : Int) < (a.length : Int) by omega), decide_eq_true (show (i : Int) < (b.length : Int) by omega)]
        refine Ev.step (fun k => perigeeref10_lessList.j1.eq_2 ..) ?_
        simp only [if_true, if_pos (show (i : Int) < (a.length : Int) by omega), if_pos (show (i : Int) < (b.length : Int) by omega), if_pos (show (0 : Int) ≤ (i : Int) by omega), if_neg h0]
        exact Ev.now _
  obtain ⟨r, h1, h2, h3⟩ := main a.length 0 (by omega)
  exact ⟨r, h1, h2, h3⟩
theorem betterR_is (a b : List Int) (c d : Int) (ha : a.length ≤ 1000) (hb : b.length ≤ 1000) : ∃ r, Ev (fun k => perigeeref10_better.f k a c b d) r ∧ (r = true → GoodE c a d b) ∧ (r = false → GoodE d b c a) := by
  simp only [perigeeref10_better.f]
  by_cases h : c = d
  · by_cases h2 : (a.length : Int) = (b.length : Int)
    · obtain ⟨v, hv, q1, q2⟩ := lessList_is a b ha hb (by omega)
      refine ⟨v, ?_, fun q => .inr ⟨h, .inr ⟨by omega, q1 q⟩⟩, fun q => .inr ⟨h.symm, .inr ⟨by omega, q2 q⟩⟩⟩
      simp only [if_pos h, if_pos h2]
      first | exact hv | exact Ev.bind (f := fun _ t => some t) hv (Ev.now _)
    · refine ⟨decide ((a.length : Int) < (b.length : Int)), ?_, fun q => ?_, fun q => ?_⟩
      rotate_left
      · have q2 : (a.length : Int) < (b.length : Int) := of_decide_eq_true q
        exact .inr ⟨h, .inl (by omega)⟩
      · have q2 : ¬ (a.length : Int) < (b.length : Int) := of_decide_eq_false q
        exact .inr ⟨h.symm, .inl (by omega)⟩
      simp only [if_pos h, if_neg h2]
      exact Ev.now _
  · refine ⟨decide (c > d), ?_, fun q => .inl (by simpa using q), fun q => .inl (by have : ¬ c > d := of_decide_eq_false q; omega)⟩
    simp only [if_neg h]
    exact Ev.now _
/-- The best one of those from j on. -/
structure BestFrom (l : List S55) (gap : Int) (j : Nat) (a : S89) : Prop where
  ok : Ok l gap a.f0
  carries : a.f1 = tot l a.f0
  from_ : ∀ x ∈ a.f0, (j : Int) ≤ x
  all : ∀ b, Ok l gap b → (∀ x ∈ b, (j : Int) ≤ x) → GoodE a.f1 a.f0 (tot l b) b
theorem ok_cons {l : List S55} {gap : Int} {b : List Int} {x : Int} : Ok l gap (x :: b) ↔ (0 ≤ x ∧ x < l.length) ∧ Ok l gap b ∧ ∀ a ∈ b, Apart l gap x a := by
  constructor
  · intro h
    obtain ⟨h1, h2⟩ := List.pairwise_cons.1 h.apart
    exact ⟨h.inside x (by simp), ⟨fun a ha => h.inside a (List.mem_cons_of_mem _ ha), h2⟩, h1⟩
  · rintro ⟨h1, h2, h3⟩
    refine ⟨fun a ha => ?_, List.pairwise_cons.2 ⟨h3, h2.apart⟩⟩
    rcases List.mem_cons.1 ha with rfl | h
    · exact h1
    · exact h2.inside a h
theorem tot_cons (l : List S55) (b : List Int) (x : Int) : tot l (x :: b) = wholeV (rd_T55 l x) + tot l b := by
  simp [tot]
/-- The first one behind i that it does not exclude. -/
structure Next (l : List S55) (gap : Int) (i n : Nat) : Prop where
  lt : i < n
  le : n ≤ l.length
  skip : ∀ j : Nat, i < j → j < n → ¬ Apart l gap i j
  is : n < l.length → Apart l gap i n
theorem Next.all {l : List S55} (hl : GoodPasses l) {gap : Int} {i n : Nat} (h : Next l gap i n) {x : Int} (h0 : (n : Int) ≤ x) (h1 : x < l.length) : Apart l gap i x := by
  obtain ⟨h2, h3⟩ := h.is (by omega)
  have := from_up hl (a := (n : Int)) (c := x) (by omega) h0 h1
  exact ⟨by omega, by omega⟩
theorem Next.only {l : List S55} (hl : GoodPasses l) {gap : Int} {i n : Nat} (h : Next l gap i n) {x : Int} (h0 : (i : Int) < x) (h1 : Apart l gap i x) : (n : Int) ≤ x := by
  have e : x = ((x.toNat : Nat) : Int) := by omega
  by_cases q : x.toNat < n
  · rw [e] at h1
    exact absurd h1 (h.skip x.toNat (by omega) q)
  · omega
theorem nxt_is {l : List S55} (hl : GoodPasses l) {gap : Int} (hg : 0 ≤ gap ∧ gap ≤ 10000000) (bs : List S89) {i : Nat} (hi : i < l.length) : ∀ d j : Nat, j + d = l.length → i < j → (∀ q : Nat, i < q → q < j → ¬ Apart l gap i q) → ∃ n : Nat, (∀ v, Ev (fun k => perigeeref10_Best.j2 k l gap bs (i : Int) (n : Int)) v → Ev (fun k => perigeeref10_Best.l1 k l gap bs (i : Int) (j : Int)) v) ∧ Next l gap i n := by
  have hm := hl.many
  intro d
  induction d with
  | zero =>
    intro j hj hij hs
    refine ⟨j, fun v hv => Ev.step (fun k => perigeeref10_Best.l1.eq_2 ..) ?_, ⟨hij, by omega, hs, fun q => by omega⟩⟩
    simp only [if_neg (show ¬ (j : Int) < (l.length : Int) by omega)]
    exact hv
  | succ d ih =>
    intro j hj hij hs
    have hex := perigeeref10_exclude_eq2 (hl.at (k := (i : Int)) (by omega) (by omega)) (hl.at (k := (j : Int)) (by omega) (by omega)) hg
    have hiff := excl_iff hl hg.1 (a := (i : Int)) (c := (j : Int)) (by omega) (by omega) (by omega)
    cases hx : exclV (rd_T55 l (i : Int)) (rd_T55 l (j : Int)) gap with
    | true =>
      obtain ⟨n, h1, h2⟩ := ih (j + 1) (by omega) (by omega) (fun q h1 h2 => by
        rcases Nat.lt_or_eq_of_le (Nat.le_of_lt_succ h2) with h | rfl
        · exact hs q h1 h
        · exact fun h => by rw [hiff.2 h] at hx; cases hx)
      refine ⟨n, fun v hv => Ev.step (fun k => perigeeref10_Best.l1.eq_2 ..) ?_, h2⟩
      simp only [if_pos (show (j : Int) < (l.length : Int) by omega), if_pos (show (0 : Int) ≤ (i : Int) by omega), if_pos (show (i : Int) < (l.length : Int) by omega), if_pos (show (0 : Int) ≤ (j : Int) by omega), hex, hx, Option.bind_some, if_true, w64 (x := (j : Int) + 1) (by omega) (by omega)]
      exact h1 v hv
    | false =>
      refine ⟨j, fun v hv => Ev.step (fun k => perigeeref10_Best.l1.eq_2 ..) ?_, ⟨hij, by omega, hs, fun _ => hiff.1 hx⟩⟩
      simp only [if_pos (show (j : Int) < (l.length : Int) by omega), if_pos (show (0 : Int) ≤ (i : Int) by omega), if_pos (show (i : Int) < (l.length : Int) by omega), if_pos (show (0 : Int) ≤ (j : Int) by omega), hex, hx, Option.bind_some, if_neg Bool.false_ne_true]
      exact hv
theorem rdD_set {bs : List S89} {i q : Nat} (c : S89) (h : i < bs.length) : rd_T89 (bs.set i c) (q : Int) = if q = i then c else rd_T89 bs (q : Int) := by
  unfold rd_T89
  simp only [Int.toNat_natCast, List.getD_eq_getElem?_getD, List.getElem?_set]
  by_cases e : i = q
  · subst e; simp [h]
  · simp [e, Ne.symm e]
/-- All the best ones, from i on. -/
structure Bests (l : List S55) (gap : Int) (i : Nat) (bs : List S89) : Prop where
  len : bs.length = l.length + 1
  at_ : ∀ q : Nat, i ≤ q → q ≤ l.length → BestFrom l gap q (rd_T89 bs (q : Int))
theorem goR_is {l : List S55} (hl : GoodPasses l) {gap : Int} (hg : 0 ≤ gap ∧ gap ≤ 10000000) :
    ∀ i : Nat, i ≤ l.length → ∀ bs, Bests l gap i bs → ∃ a, Ev (fun k => perigeeref10_Best.l0 k l gap bs ((i : Int) - 1)) (a.f0, a.f1, 0) ∧ BestFrom l gap 0 a := by
  intro i
  induction i with
  | zero =>
    intro _ bs hb
    have h1 := hb.at_ 0 (Nat.le_refl _) (Nat.zero_le _)
    refine ⟨rd_T89 bs 0, Ev.step (fun k => perigeeref10_Best.l0.eq_2 ..) ?_, h1⟩
    have hbl := hb.len
    simp only [if_neg (show ¬ ((0 : Nat) : Int) - 1 ≥ 0 by omega), if_pos (show (0 : Int) < (bs.length : Int) by omega)]
    exact Ev.now _
  | succ i ih =>
    intro hi bs hb
    have hm := hl.many
    have hbl := hb.len
    obtain ⟨n, h1, h2⟩ := nxt_is hl hg bs (i := i) (by omega) (l.length - (i + 1)) (i + 1) (by omega) (by omega) (fun q h1 h2 => by omega)
    have hw := perigeeref10_whole_ev (hl.at (k := (i : Int)) (by omega) (by omega))
    have hwb := wholeV_bd (hl.at (k := (i : Int)) (by omega) (by omega))
    obtain ⟨t, ht⟩ : ∃ t, t = wholeV (rd_T55 l (i : Int)) := ⟨_, rfl⟩
    rw [← ht] at hw hwb
    have hn1 := h2.lt
    have hn2 := h2.le
    have hf := hb.at_ n (by omega) hn2
    have h0 := hb.at_ (i + 1) (Nat.le_refl _) hi
    obtain ⟨c, hc⟩ : ∃ c, c = rd_T89 bs (n : Int) := ⟨_, rfl⟩
    obtain ⟨b0, hb0⟩ : ∃ b0, b0 = rd_T89 bs ((i + 1 : Nat) : Int) := ⟨_, rfl⟩
    rw [← hc] at hf
    rw [← hb0] at h0
    have hft := hf.ok.tot hl
    have hok : Ok l gap ((i : Int) :: c.f0) := ok_cons.2 ⟨⟨by omega, by omega⟩, hf.ok, fun a ha => h2.all hl (hf.from_ a ha) (hf.ok.inside a ha).2⟩
    have hcar : t + c.f1 = tot l ((i : Int) :: c.f0) := by rw [tot_cons, hf.carries, ht]
    have hfc := hf.carries
    obtain ⟨r, h3, h4, h5⟩ := betterR_is ((i : Int) :: c.f0) b0.f0 (t + c.f1) b0.f1 (by have := (hok.tot hl).1; omega) (by have := (h0.ok.tot hl).1; omega)
    have hall1 : ∀ b, Ok l gap ((i : Int) :: b) → GoodE (t + c.f1) ((i : Int) :: c.f0) (tot l ((i : Int) :: b)) ((i : Int) :: b) := fun b hb => by
      rw [tot_cons, ← ht]
      refine GoodE.cons (hf.all b ?_ ?_) _ _
      · exact (ok_cons.1 hb).2.1
      · intro x hx
        have := (ok_cons.1 hb).2.2 x hx
        exact h2.only hl this.1 this
    have hnew : BestFrom l gap i (if r = true then (⟨(i : Int) :: c.f0, t + c.f1⟩ : S89) else b0) := by
      have split : ∀ b, Ok l gap b → (∀ x ∈ b, (i : Int) ≤ x) → (∀ x ∈ b, ((i + 1 : Nat) : Int) ≤ x) ∨ ∃ b', b = (i : Int) :: b' := fun b hbo hge => by
        cases b with
        | nil => exact .inl (fun x hx => (List.not_mem_nil hx).elim)
        | cons x b' =>
          have hx := hge x (by simp)
          by_cases e : x = (i : Int)
          · exact .inr ⟨b', by rw [e]⟩
          · refine .inl (fun y hy => ?_)
            rcases List.mem_cons.1 hy with rfl | h
            · omega
            · have := ((ok_cons.1 hbo).2.2 y h).1; omega
      cases r with
      | true =>
        have hgo := h4 rfl
        refine ⟨hok, hcar, fun x hx => ?_, fun b hbo hge => ?_⟩
        · rcases List.mem_cons.1 hx with rfl | h
          · exact Int.le_refl _
          · have := hf.from_ x h; omega
        · rcases split b hbo hge with h | ⟨b', rfl⟩
          · exact GoodE.trans hgo (h0.all b hbo h)
          · exact hall1 b' hbo
      | false =>
        have hgo := h5 rfl
        refine ⟨h0.ok, h0.carries, fun x hx => by have := h0.from_ x hx; omega, fun b hbo hge => ?_⟩
        rcases split b hbo hge with h | ⟨b', rfl⟩
        · exact h0.all b hbo h
        · exact GoodE.trans hgo (hall1 b' hbo)
    have hset : ∀ (bs' : List S89) (x : S89), bs'.length = l.length + 1 → (∀ q : Nat, i < q → rd_T89 bs' (q : Int) = rd_T89 bs (q : Int)) → BestFrom l gap i x → Bests l gap i (bs'.set i x) := fun bs' x hlen hsame hx => by
      refine ⟨by rw [List.length_set]; exact hlen, fun q hq1 hq2 => ?_⟩
      rw [rdD_set x (by omega)]
      by_cases e : q = i
      · rw [if_pos e, e]; exact hx
      · rw [if_neg e, hsame q (by omega)]; exact hb.at_ q (by omega) hq2
    have e1 : (((i + 1 : Nat) : Int) - 1) = (i : Int) := by omega
    obtain ⟨a, h6, h7⟩ : ∃ a, Ev (fun k => if r = true then perigeeref10_Best.l0 k l gap ((bs.set i b0).set i (⟨(i : Int) :: c.f0, t + c.f1⟩ : S89)) ((i : Int) - 1) else perigeeref10_Best.l0 k l gap (bs.set i b0) ((i : Int) - 1)) (a.f0, a.f1, 0) ∧ BestFrom l gap 0 a := by
      cases r with
      | true =>
        simp only [if_true] at hnew ⊢
        refine ih (by omega) _ (hset _ _ (by rw [List.length_set]; exact hbl) (fun q hq => by rw [rdD_set _ (by omega), if_neg (by omega)]) hnew)
      | false =>
        simp only [if_neg Bool.false_ne_true] at hnew ⊢
        exact ih (by omega) _ (hset _ _ hbl (fun q hq => rfl) hnew)
    refine ⟨a, Ev.step (fun k => perigeeref10_Best.l0.eq_2 ..) ?_, h7⟩
    rw [e1]
    simp only [if_pos (show (i : Int) ≥ 0 by omega), w64 (x := (i : Int) + 1) (by omega) (by omega)]
    refine h1 _ (Ev.step (fun k => perigeeref10_Best.j2.eq_2 ..) ?_)
    have hb1 : rd_T89 bs ((i : Int) + 1) = b0 := by rw [hb0]; rfl
    have hbi : rd_T89 (bs.set i b0) (i : Int) = b0 := by rw [rdD_set _ (by omega), if_pos rfl]
    simp only [Option.bind_some, ← hc, hb1, if_pos (show (0 : Int) ≤ (i : Int) by omega), if_pos (show (i : Int) < (l.length : Int) by omega), if_pos (show (0 : Int) ≤ (n : Int) by omega), if_pos (show (n : Int) < (bs.length : Int) by omega), w64 (x := (i : Int) + 1) (by omega) (by omega), w64 (x := (i : Int) - 1) (by omega) (by omega), if_pos (show (0 : Int) ≤ (i : Int) + 1 by omega), if_pos (show (i : Int) + 1 < (bs.length : Int) by omega), if_pos (show (i : Int) < (bs.length : Int) by omega), if_pos (show [(i : Int)].length + c.f0.length < 17592186044416 by simp only [List.length_cons, List.length_nil]; omega), w64 (x := t + c.f1) (by omega) (by omega), Int.toNat_natCast, List.singleton_append, hbi]
    refine Ev.bind hw ?_
    simp only [w64 (x := t + c.f1) (by omega) (by omega)]
    exact Ev.bind h3 h6
theorem BestFrom.same {l : List S55} {gap : Int} {a : S89} {b : S80} (h : BestFrom l gap 0 a) (k : BestOf2 l gap l.length b) : a.f0 = b.f0 ∧ a.f1 = b.f1 := by
  have h1 := h.all b.f0 k.ok.1 (fun x hx => by have := (k.ok.1.inside x hx).1; omega)
  have h2 := k.all a.f0 h.ok (fun x hx => (h.ok.inside x hx).2)
  unfold GoodL at h2
  rw [← k.ok.2] at h1
  rw [← h.carries] at h2
  have h3 := GoodE.antisymm h1 h2
  exact ⟨h3.2, h3.1⟩
theorem Ev.ite_pos {c : Prop} [Decidable c] {α : Type} {A : Nat → Option α} {v : α} (h : c) (k : Ev A v) : Ev (fun n => if c then A n else none) v := by
  have e : (fun n => if c then A n else none) = A := funext fun n => if_pos h
  rw [e]
  exact k
theorem bests_start (l : List S55) (gap : Int) : Bests l gap l.length (List.replicate (l.length + 1) (⟨[], 0⟩ : S89)) := ⟨List.length_replicate, fun q hq1 hq2 => by
  obtain rfl : q = l.length := by omega
  have e : rd_T89 (List.replicate (l.length + 1) (⟨[], 0⟩ : S89)) ((l.length : Nat) : Int) = (⟨[], 0⟩ : S89) := by
    unfold rd_T89
    rw [Int.toNat_natCast, List.getD_eq_getElem?_getD, List.getElem?_replicate, if_pos (by omega)]
    rfl
  rw [e]
  refine ⟨Ok.nil l gap, rfl, fun x hx => (List.not_mem_nil hx).elim, fun b hb hge => ?_⟩
  cases b with
  | nil => exact GoodE.refl _ _
  | cons x b =>
    have h5 := hge x (by simp)
    have h6 := (hb.inside x (by simp)).2
    exact absurd h5 (by omega)⟩
theorem Ev.iteT {c : Prop} [Decidable c] {α : Type} {A B : Nat → Option α} {v : α} (h : c) (k : Ev A v) : Ev (fun n => if c then A n else B n) v := by
  have e : (fun n => if c then A n else B n) = A := funext fun n => if_pos h
  rw [e]
  exact k
theorem Ev.iteF {c : Prop} [Decidable c] {α : Type} {A B : Nat → Option α} {v : α} (h : ¬ c) (k : Ev B v) : Ev (fun n => if c then A n else B n) v := by
  have e : (fun n => if c then A n else B n) = B := funext fun n => if_neg h
  rw [e]
  exact k
theorem bestR_go {l : List S55} (hl : GoodPasses l) {gap : Int} (hg : 0 ≤ gap ∧ gap ≤ 10000000) : ∃ a : S89, Ev (fun k => if 0 ≤ (wrap64 ((l.length : Int) + 1)) then (if (wrap64 ((l.length : Int) + 1) : Int).toNat ≤ 8796093022208 then (perigeeref10_Best.l0 k l gap (List.replicate (wrap64 ((l.length : Int) + 1) : Int).toNat z89) (wrap64 ((l.length : Int) - 1))) else (none)) else (none)) (a.f0, a.f1, 0) ∧ BestFrom l gap 0 a := by
  have hm := hl.many
  obtain ⟨bs, hbs⟩ : ∃ bs, bs = List.replicate (l.length + 1) z89 := ⟨_, rfl⟩
  have hst : Bests l gap l.length (List.replicate (l.length + 1) z89) := bests_start l gap
  rw [← hbs] at hst
  obtain ⟨a, h3, h4⟩ := goR_is hl hg l.length (Nat.le_refl _) bs hst
  refine ⟨a, ?_, h4⟩
  have ew : wrap64 ((l.length : Int) + 1) = ((l.length + 1 : Nat) : Int) := by rw [w64 (by omega) (by omega)]; omega
  have ew2 : wrap64 ((l.length : Int) - 1) = (l.length : Int) - 1 := w64 (by omega) (by omega)
  rw [ew, ew2, Int.toNat_natCast, ← hbs]
  refine Ev.ite_pos (show (0 : Int) ≤ ((l.length + 1 : Nat) : Int) by omega) ?_
  refine Ev.ite_pos (show l.length + 1 ≤ 8796093022208 by omega) ?_
  exact h3
theorem bestR_is (l : List S55) (gap : Int) (hw : ∀ x ∈ l, x.f0.size ≤ 140737488351232) : ∃ a : S89, Ev (fun k => perigeeref10_Best.f k l gap) (if gapF l gap = 0 then (a.f0, a.f1, 0) else ([], 0, gapF l gap)) ∧ (gapF l gap = 0 → BestFrom l gap 0 a) := by
  simp only [perigeeref10_Best.f]
  by_cases h : gapF l gap = 0
  · obtain ⟨h1, h2⟩ := gapF_zero.1 h
    have hl := checkV_zero h1
    obtain ⟨a, h3, h4⟩ := bestR_go hl h2
    refine ⟨a, ?_, fun _ => h4⟩
    rw [if_pos h]
    refine Ev.bind (perigeeref10_CheckPasses_ev l hw) ?_
    refine Ev.iteT h1 ?_
    refine Ev.bind (g := fun _ => perigeeref10_gapOK.f gap) (a := true) ⟨0, fun _ _ => by rw [perigeeref10_gapOK_eq, decide_eq_true h2]⟩ ?_
    refine Ev.iteT rfl ?_
    exact h3
  · refine ⟨(⟨[], 0⟩ : S89), ?_, fun q => absurd q h⟩
    rw [if_neg h]
    refine Ev.bind (perigeeref10_CheckPasses_ev l hw) ?_
    by_cases hc : checkV l = 0
    · have hg : ¬ (0 ≤ gap ∧ gap ≤ 10000000) := fun q => h (gapF_zero.2 ⟨hc, q⟩)
      have e : gapF l gap = 1 := by unfold gapF firstV firstV; simp [hc, hg]
      rw [e]
      refine Ev.iteT hc ?_
      refine Ev.bind (g := fun _ => perigeeref10_gapOK.f gap) (a := false) ⟨0, fun _ _ => by rw [perigeeref10_gapOK_eq, decide_eq_false hg]⟩ ?_
      refine Ev.iteF Bool.false_ne_true ?_
      exact Ev.now _
    · have e : gapF l gap = checkV l := by unfold gapF firstV; simp [hc]
      rw [e]
      refine Ev.iteF hc ?_
      exact Ev.now _
end Go.Proofs.YtbngmblgkkdhpaaDoor.Q
