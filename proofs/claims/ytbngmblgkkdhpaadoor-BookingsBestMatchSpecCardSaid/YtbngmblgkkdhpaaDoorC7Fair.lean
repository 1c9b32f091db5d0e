/- Plain laws: what booked passes of each station carry, all right bookings of few passes, and the fair one. -/
-- Made by wip/tools/claimp.py of this session's texts; Lean checks it.
import Derived.Test.YtbngmblgkkdhpaaDoorC7Best2
import Derived.Maps.Views
import Derived.Sort.KeysCollected
import Derived.Laws.BitsLemmas
import Derived.Test.YtbngmblgkkdhpaaDoorC7Gd13
import Derived.Test.YtbngmblgkkdhpaaDoorC7Gd12
import Derived.Test.YtbngmblgkkdhpaaDoorC7Gd11
set_option linter.unusedVariables false
set_option linter.unusedSimpArgs false
namespace Go.Proofs.YtbngmblgkkdhpaaDoor.Q
open Go.RowKit Go.Proofs.YtbngmblgkkdhpaaDoorW.PrintWords Go.Proofs.YtbngmblgkkdhpaaDoorW.PrintLast Go.Proofs.YtbngmblgkkdhpaaDoorW.PrintMore Go.Proofs.YtbngmblgkkdhpaaDoor.Base
theorem Ev.eq_to {α : Type} {g : Nat → Option α} {a b : α} (h : Ev g a) (e : a = b) : Ev g b := e ▸ h
def carr (l : List S55) (s : ByteArray) : List Int → Int
  | [] => 0
  | a :: r => (if (rd_T55 l a).f0 = s then wholeV (rd_T55 l a) else 0) + carr l s r
theorem carr_bd {l : List S55} (hl : GoodPasses l) (s : ByteArray) : ∀ b : List Int, (∀ a ∈ b, 0 ≤ a ∧ a < l.length) → 0 ≤ carr l s b ∧ carr l s b ≤ b.length * 10000000000000
  | [], _ => by simp [carr]
  | a :: r, h => by
    have h1 := carr_bd hl s r (fun x hx => h x (List.mem_cons_of_mem _ hx))
    have h2 := h a (List.mem_cons_self ..)
    have h3 := wholeV_bd (hl.at h2.1 h2.2)
    rw [carr, List.length_cons]
    split <;> omega
theorem bytes_inj {s t : ByteArray} (h : s.data.toList = t.data.toList) : s = t := by
  apply ByteArray.ext
  exact Array.ext' h
theorem keyL_inj {s t : ByteArray} : keyL s = keyL t ↔ s = t := by
  constructor
  · intro h
    unfold keyL at h
    injection h with h
    exact bytes_inj h
  · rintro rfl
    rfl
theorem keyL_lit (s : ByteArray) : WideAt.IsKeyLit (keyL s) := by
  unfold keyL
  first | trivial | exact rfl | (simp [WideAt.IsKeyLit]; done)
theorem valD_put {m : MapD} (hm : Maps.IsMap m) (s t : ByteArray) (c : Int) : valD (m.put (keyL s) (litI c)) t = if t = s then c else valD m t := by
  unfold valD
  by_cases h : t = s
  · subst h
    rw [if_pos rfl, Maps.atKey_put_same hm (keyL_lit t)]
    rfl
  · rw [if_neg h, Maps.atKey_put_other (fun q => h (keyL_inj.1 q))]
theorem mem_insertD {x : Lit × MapD} : ∀ {l : List (Lit × MapD)} {p : Lit × MapD}, p ∈ DataW.insert x l → p = x ∨ p ∈ l
  | [], p, h => by
    unfold DataW.insert at h
    exact .inl (by simpa using h)
  | y :: r, p, h => by
    unfold DataW.insert at h
    split at h
    · rcases List.mem_cons.1 h with h | h
      · exact .inl h
      · exact .inr h
    · rcases List.mem_cons.1 h with h | h
      · exact .inr (by rw [h]; exact List.mem_cons_self ..)
      · rcases mem_insertD h with h | h
        · exact .inl h
        · exact .inr (List.mem_cons_of_mem _ h)
/-- A map by names. -/
structure Names (m : MapD) : Prop where
  tidy : Maps.Tidy m
  keys : ∀ es, m = .map es → ∀ p ∈ es, ∃ x, p.1 = .string x
theorem Names.nil : Names (.map [] : MapD) := ⟨Maps.tidy_empty, fun es h p hp => by
  injection h with h
  subst h
  exact (List.not_mem_nil hp).elim⟩
theorem Names.put {m : MapD} (h : Names m) (s : ByteArray) (c : Int) : Names (m.put (keyL s) (litI c)) := by
  refine ⟨h.tidy.put (keyL_lit s) _, fun es he p hp => ?_⟩
  obtain ⟨es0, rfl, _⟩ := h.tidy
  have he2 : DataW.insert (keyL s, litI c) (es0.filter fun p => !p.1.sameKey (keyL s)) = es := by
    have : (DataW.map (DataW.insert (keyL s, litI c) (es0.filter fun p => !p.1.sameKey (keyL s))) : MapD) = .map es := he
    injection this
  rw [← he2] at hp
  rcases mem_insertD hp with h1 | h1
  · rw [h1]; exact ⟨_, rfl⟩
  · exact h.keys es0 rfl p (List.mem_filter.1 h1).1
/-- What booked passes of each station carry. -/
structure ByD (l : List S55) (b : List Int) (m : MapD) : Prop where
  names : Names m
  val : ∀ s, valD m s = carr l s b
  has : ∀ s, Maps.has m (keyL s) = true ↔ ∃ a ∈ b, (rd_T55 l a).f0 = s
theorem name_size {p : S55} (h : GoodPass p) : p.f0.size ≤ 40 := by
  have := h.name
  unfold nameOk at this
  simp only [Bool.and_eq_true, decide_eq_true_eq] at this
  omega
theorem byD_ev0 {l : List S55} (hl : GoodPasses l) : ∀ (b : List Int) (m : MapD) (C : Int), (∀ a ∈ b, 0 ≤ a ∧ a < l.length) → Names m → (∀ s, 0 ≤ valD m s ∧ valD m s ≤ C) → C + b.length * 10000000000000 ≤ 4000000000000000000 →
    ∃ m', Ev (fun k => byD k l b m) m' ∧ Names m' ∧ (∀ s, valD m' s = valD m s + carr l s b) ∧ (∀ s, Maps.has m' (keyL s) = true ↔ (Maps.has m (keyL s) = true ∨ ∃ a ∈ b, (rd_T55 l a).f0 = s))
  | [], m, C, _, hn, _, _ => ⟨m, by simp only [byD]; exact Ev.now _, hn, fun s => by simp [carr], fun s => by simp⟩
  | a :: r, m, C, hi, hn, hv, hc => by
    have ha := hi a (List.mem_cons_self ..)
    have hp := hl.at ha.1 ha.2
    have hw := contact_whole_ev hp
    have hb := wholeV_bd hp
    have hs := name_size hp
    have h0 := hv (rd_T55 l a).f0
    obtain ⟨t, ht⟩ : ∃ t, t = wholeV (rd_T55 l a) := ⟨_, rfl⟩
    rw [← ht] at hw hb
    have hlen : (((a :: r).length : Nat) : Int) = (r.length : Int) + 1 := by simp
    rw [hlen] at hc
    obtain ⟨m', h1, h2, h3, h4⟩ := byD_ev0 hl r (m.put (keyL (rd_T55 l a).f0) (litI (valD m (rd_T55 l a).f0 + t))) (C + 10000000000000) (fun x hx => hi x (List.mem_cons_of_mem _ hx)) (hn.put _ _) (fun s => by
      rw [valD_put hn.tidy.isMap]
      have := hv s
      split <;> omega) (by omega)
    refine ⟨m', ?_, h2, fun s => ?_, fun s => ?_⟩
    · simp only [byD]
      simp only [if_pos (show 0 ≤ a ∧ a < (l.length : Int) ∧ (rd_T55 l a).f0.size ≤ 1000 from ⟨ha.1, ha.2, by omega⟩)]
      refine Ev.bind hw ?_
      simp only [if_pos (show -9223372036854775808 ≤ t ∧ t ≤ 9223372036854775807 from ⟨by omega, by omega⟩), w64 (x := valD m (rd_T55 l a).f0 + t) (by omega) (by omega)]
      exact h1
    · rw [h3, valD_put hn.tidy.isMap, carr, ← ht]
      by_cases e : s = (rd_T55 l a).f0
      · rw [if_pos e, if_pos e.symm, e]; omega
      · rw [if_neg e, if_neg (fun q => e q.symm)]; omega
    · rw [h4]
      by_cases e : s = (rd_T55 l a).f0
      · subst e
        rw [Maps.has_put_same hn.tidy.isMap (keyL_lit _)]
        exact ⟨fun _ => .inr ⟨a, List.mem_cons_self .., rfl⟩, fun _ => .inl rfl⟩
      · rw [Maps.has_put_other (fun q => e (keyL_inj.1 q))]
        constructor
        · rintro (h | ⟨x, hx, q⟩)
          · exact .inl h
          · exact .inr ⟨x, List.mem_cons_of_mem _ hx, q⟩
        · rintro (h | ⟨x, hx, q⟩)
          · exact .inl h
          · rcases List.mem_cons.1 hx with rfl | hx
            · exact absurd q.symm e
            · exact .inr ⟨x, hx, q⟩
theorem valD_nil (s : ByteArray) : valD (.map [] : MapD) s = 0 := by
  unfold valD litI
  rfl
theorem byD_ev {l : List S55} (hl : GoodPasses l) {b : List Int} (hb : ∀ a ∈ b, 0 ≤ a ∧ a < l.length) (hlen : b.length ≤ 100) : ∃ m, Ev (fun k => byD k l b (.map [])) m ∧ ByD l b m := by
  obtain ⟨m, h1, h2, h3, h4⟩ := byD_ev0 hl b (.map []) 0 hb Names.nil (fun s => by rw [valD_nil]; omega) (by omega)
  refine ⟨m, h1, h2, fun s => by rw [h3, valD_nil]; omega, fun s => ?_⟩
  rw [h4]
  simp [Maps.has]
/-- Names in order. -/
theorem Names.mem {m : MapD} (h : Names m) (s : ByteArray) : s ∈ namesD m ↔ Maps.has m (keyL s) = true := by
  obtain ⟨es, rfl, _⟩ := h.tidy
  have hk := h.keys es rfl
  unfold namesD
  rw [List.mem_map]
  constructor
  · rintro ⟨x, hx, rfl⟩
    have hx2 := (List.mergeSort_perm _ _).mem_iff.1 hx
    unfold Go.strKeys at hx2
    obtain ⟨p, hp, rfl⟩ := List.mem_map.1 hx2
    obtain ⟨y, hy⟩ := hk p hp
    show es.any _ = true
    rw [List.any_eq_true]
    refine ⟨p, hp, ?_⟩
    rw [hy]
    simp [keyL, toB, Go.strOf, Lit.sameKey]
  · intro hh
    have hh2 : es.any (fun p => p.1.sameKey (keyL s)) = true := hh
    rw [List.any_eq_true] at hh2
    obtain ⟨p, hp, hs⟩ := hh2
    obtain ⟨y, hy⟩ := hk p hp
    rw [hy] at hs
    have e : y = s.data.toList := by simpa [keyL, Lit.sameKey] using hs
    refine ⟨y, (List.mergeSort_perm _ _).mem_iff.2 ?_, ?_⟩
    · unfold Go.strKeys
      exact List.mem_map.2 ⟨p, hp, by rw [hy]; rfl⟩
    · rw [e]; rfl
theorem ByD.mem {l : List S55} {b : List Int} {m : MapD} (h : ByD l b m) (s : ByteArray) : s ∈ namesD m ↔ ∃ a ∈ b, (rd_T55 l a).f0 = s := by
  rw [h.names.mem, h.has]
theorem contact_ByStation_ev (l : List S55) (b : List Int) (hb : b.length ≤ 1152921504606846976) : ∃ m, Ev (fun k => contact_ByStation.f k l b) (if bothV l b = 0 then ((namesD m).map (pairOf m), 0) else ([], bothV l b)) ∧ (bothV l b = 0 → ByD l b m) := by
  simp only [contact_ByStation.f]
  by_cases h : bothV l b = 0
  · obtain ⟨hl, hg⟩ := bothV_zero h
    have hm := hg.many
    have hlm := hl.many
    have hin : ∀ a ∈ b, 0 ≤ a ∧ a < l.length := fun a ha => by
      obtain ⟨i, hi, rfl⟩ := List.getElem_of_mem ha
      have := hg.inside i hi
      rwa [rdI_get hi] at this
    obtain ⟨m, h1, h2⟩ := byD_ev hl hin (by omega)
    refine ⟨m, ?_, fun _ => h2⟩
    refine Ev.bind (contact_check_ev l b hb) ?_
    simp only [if_pos h, if_pos (show b.length < 1000000 by omega)]
    refine Ev.bind h1 ?_
    have hall : (namesD m).all (nameOK m) = true := by
      rw [List.all_eq_true]
      intro s hs
      obtain ⟨a, ha, rfl⟩ := (h2.mem s).1 hs
      have h3 := hin a ha
      have h4 := name_size (hl.at h3.1 h3.2)
      have h5 := carr_bd hl (rd_T55 l a).f0 b hin
      unfold nameOK
      rw [h2.val, Bool.and_eq_true, decide_eq_true_iff, decide_eq_true_iff]
      have : (b.length : Int) * 10000000000000 ≤ 100 * 10000000000000 := Int.mul_le_mul_of_nonneg_right (by omega) (by omega)
      exact ⟨by omega, by omega, by omega⟩
    simp only [if_pos hall]
    exact Ev.now _
  · refine ⟨.map [], ?_, fun q => absurd q h⟩
    refine Ev.bind (contact_check_ev l b hb) ?_
    simp only [if_neg h]
    exact Ev.now _
def bitsTo (q : Nat) : Nat → List Int
  | 0 => []
  | i + 1 => bitsTo q i ++ (if q / 2 ^ i % 2 = 1 then [(i : Int)] else [])
theorem bitsTo_len (q : Nat) : ∀ i, (bitsTo q i).length ≤ i
  | 0 => Nat.le_refl _
  | i + 1 => by
    have := bitsTo_len q i
    rw [bitsTo, List.length_append]
    split <;> simp <;> omega
theorem bitsTo_in (q : Nat) : ∀ i, ∀ a ∈ bitsTo q i, 0 ≤ a ∧ a < (i : Int)
  | 0, a, h => (List.not_mem_nil h).elim
  | i + 1, a, h => by
    rw [bitsTo] at h
    rcases List.mem_append.1 h with h | h
    · have := bitsTo_in q i a h; omega
    · split at h
      · rw [List.mem_singleton.1 h]; omega
      · exact (List.not_mem_nil h).elim
theorem bitsTo_rise (q : Nat) : ∀ i, (bitsTo q i).Pairwise (· < ·)
  | 0 => List.Pairwise.nil
  | i + 1 => by
    rw [bitsTo]
    refine List.pairwise_append.2 ⟨bitsTo_rise q i, ?_, fun a ha c hc => ?_⟩
    · split
      · exact List.pairwise_singleton _ _
      · exact List.Pairwise.nil
    · split at hc
      · rw [List.mem_singleton.1 hc]
        exact (bitsTo_in q i a ha).2
      · exact (List.not_mem_nil hc).elim
theorem rise_book {l : List S55} {s : List Int} (hp : s.Pairwise (· < ·)) (hs : ∀ a ∈ s, 0 ≤ a ∧ a < (l.length : Int)) : GoodBook l s := ⟨fun i hi => by
  rw [rdI_get hi]
  exact hs _ (List.getElem_mem hi), fun i hi => by
  rw [rdI_get (show i < s.length by omega), rdI_get hi]
  exact List.pairwise_iff_getElem.1 hp i (i + 1) (by omega) hi (by omega)⟩
theorem bits_book (l : List S55) (q : Nat) : GoodBook l (bitsTo q l.length) := rise_book (bitsTo_rise q l.length) (bitsTo_in q l.length)
theorem Ok.rise {l : List S55} {gap : Int} {b : List Int} (h : Ok l gap b) : b.Pairwise (· < ·) := h.apart.imp (fun h => h.1)
theorem ok_clash {l : List S55} {gap : Int} (h0 : gapF l gap = 0) {s : List Int} (hb : GoodBook l s) : clashV l gap s 0 = false ↔ Ok l gap s := by
  rw [← ok_iff h0]
  unfold bookingV
  rw [if_pos h0, if_pos (bookV_of hb s.length 0 (by omega))]
  cases clashV l gap s 0 <;> simp
def BK (l : List S55) (gap : Int) : Nat → List (List Int)
  | 0 => []
  | q + 1 => BK l gap q ++ (if clashV l gap (bitsTo q l.length) 0 = true then [] else [bitsTo q l.length])
theorem BK_len (l : List S55) (gap : Int) : ∀ q, (BK l gap q).length ≤ q
  | 0 => Nat.le_refl _
  | q + 1 => by
    have := BK_len l gap q
    rw [BK, List.length_append]
    split <;> simp <;> omega
theorem BK_mem {l : List S55} {gap : Int} (h0 : gapF l gap = 0) {s : List Int} : ∀ q, s ∈ BK l gap q → Ok l gap s
  | 0, h => (List.not_mem_nil h).elim
  | q + 1, h => by
    rw [BK] at h
    rcases List.mem_append.1 h with h | h
    · exact BK_mem h0 q h
    · split at h
      · exact (List.not_mem_nil h).elim
      · rename_i hc
        rw [List.mem_singleton.1 h]
        exact (ok_clash h0 (bits_book l q)).1 (by simpa using hc)
theorem shr_nat {q i : Nat} (hi : i ≤ 12) : shr .i64 (q : Int) (i : Int) = ((q / 2 ^ i : Nat) : Int) := by
  unfold shr
  rw [Int.toNat_natCast, Nat.min_eq_left (show i ≤ IntKind.i64.bits by have : IntKind.i64.bits = 64 := rfl; omega)]
  norm_cast
theorem shl_nat {n : Nat} (hn : n ≤ 12) : shl .i64 1 (n : Int) = ((2 ^ n : Nat) : Int) := by
  have : ∀ n : Fin 13, shl .i64 1 ((n.val : Nat) : Int) = ((2 ^ n.val : Nat) : Int) := by decide
  exact this ⟨n, by omega⟩
theorem pow_bd {n : Nat} (hn : n ≤ 12) : 2 ^ n ≤ 4096 := by
  have : (2 : Nat) ^ n ≤ 2 ^ 12 := Nat.pow_le_pow_right (by omega) hn
  omega
theorem and_one {y : Nat} (hy : y ≤ 4096) : Go.bits .and .i64 (y : Int) 1 = ((y % 2 : Nat) : Int) := by
  have h := Go.bits_mask .i64 62 (by decide) (fun n h0 h1 => by
    rw [Go.IntKind.wrap_i64]
    have : (2 : Int) ^ 62 = 4611686018427387904 := by decide
    omega) 1 (by decide) (y : Int) (by omega) (by
    have : (2 : Int) ^ 62 = 4611686018427387904 := by decide
    omega)
  have e : ((2 : Int) ^ 1 - 1) = 1 := by decide
  rw [e] at h
  rw [h]
  omega
theorem contact_bookings_l1 {l : List S55} (hl : GoodPasses l) {gap : Int} (hg : 0 ≤ gap ∧ gap ≤ 10000000) (hn : l.length ≤ 12) {q : Nat} (hq : q < 4096) {acc : List (List Int)} (hacc : acc.length ≤ 4096) {x11 : Int} {r : List (List Int)}
    (h : Ev (fun k => contact_bookings.l0 k l gap (acc ++ (if clashV l gap (bitsTo q l.length) 0 = true then [] else [bitsTo q l.length])) x11 ((q : Int) + 1)) r) :
    ∀ d i : Nat, i + d = l.length → Ev (fun k => contact_bookings.l1 k l gap acc (q : Int) (bitsTo q i) x11 (q : Int) (l.length : Int) (i : Int)) r := by
  intro d
  induction d with
  | zero =>
    intro i hi
    obtain rfl : i = l.length := by omega
    refine Ev.step (fun k => contact_bookings.l1.eq_2 ..) ?_
    simp only [if_neg (show ¬ (l.length : Int) < (l.length : Int) by omega)]
    refine Ev.bind (contact_clash_ev hl hg (bits_book l q)) ?_
    simp only [w64 (x := (q : Int) + 1) (by omega) (by omega)]
    cases hc : clashV l gap (bitsTo q l.length) 0 with
    | true =>
      rw [hc] at h
      simp only [if_true, List.append_nil] at h ⊢
      exact h
    | false =>
      rw [hc] at h
      simp only [if_neg Bool.false_ne_true, if_pos (show acc.length < 5864062014805 by omega)] at h ⊢
      exact h
  | succ d ih =>
    intro i hi
    have hb := ih (i + 1) (by omega)
    have hlen := bitsTo_len q i
    refine Ev.step (fun k => contact_bookings.l1.eq_2 ..) ?_
    have hdiv : q / 2 ^ i ≤ 4096 := Nat.le_trans (Nat.div_le_self _ _) (by omega)
    simp only [if_pos (show (i : Int) < (l.length : Int) by omega), if_pos (show (0 : Int) ≤ (i : Int) by omega), w64 (x := (i : Int) + 1) (by omega) (by omega), shr_nat (q := q) (i := i) (by omega), and_one hdiv, if_pos (show (bitsTo q i).length < 17592186044416 by omega)]
    rw [bitsTo] at hb
    by_cases c : q / 2 ^ i % 2 = 1
    · simp only [if_pos c] at hb
      simp only [if_pos (show ((q / 2 ^ i % 2 : Nat) : Int) = 1 by omega)]
      exact hb
    · simp only [if_neg c, List.append_nil] at hb
      simp only [if_neg (show ¬ ((q / 2 ^ i % 2 : Nat) : Int) = 1 by omega)]
      exact hb
theorem contact_bookings_ev {l : List S55} (hl : GoodPasses l) {gap : Int} (hg : 0 ≤ gap ∧ gap ≤ 10000000) (hn : l.length ≤ 12) : Ev (fun k => contact_bookings.f k l gap) (BK l gap (2 ^ l.length)) := by
  simp only [contact_bookings.f, shl_nat hn]
  have hp := pow_bd hn
  have main : ∀ d q : Nat, q + d = 2 ^ l.length → Ev (fun k => contact_bookings.l0 k l gap (BK l gap q) ((2 ^ l.length : Nat) : Int) (q : Int)) (BK l gap (2 ^ l.length)) := by
    intro d
    induction d with
    | zero =>
      intro q hq
      have e : q = 2 ^ l.length := by omega
      refine Ev.step (fun k => contact_bookings.l0.eq_2 ..) ?_
      simp only [if_neg (show ¬ (q : Int) < ((2 ^ l.length : Nat) : Int) by omega)]
      exact Ev.eq_to (Ev.now _) (by rw [e])
    | succ d ih =>
      intro q hq
      have h := ih (q + 1) (by omega)
      refine Ev.step (fun k => contact_bookings.l0.eq_2 ..) ?_
      simp only [if_pos (show (q : Int) < ((2 ^ l.length : Nat) : Int) by omega)]
      have hl2 := BK_len l gap q
      exact contact_bookings_l1 hl hg hn (by omega) (by omega) h l.length 0 (by omega)
  exact main (2 ^ l.length) 0 (by omega)
def lgo (V : Nat → Int) : Nat → Nat → Int → Int
  | 0, _, le => le
  | d + 1, i, le => lgo V d (i + 1) (if i = 0 ∨ V i < le then V i else le)
theorem leastGo_lgo (m : MapD) (l : List S55) : ∀ d i le, leastGo m l d i le = lgo (fun j => valD m (rd_T55 l (j : Int)).f0) d i le
  | 0, _, _ => rfl
  | d + 1, i, le => by
    unfold leastGo lgo
    exact leastGo_lgo m l d (i + 1) _
theorem lgo_spec (V : Nat → Int) (n : Nat) : ∀ d i le, i + d = n → (i ≠ 0 → (∃ j, j < i ∧ le = V j) ∧ ∀ j, j < i → le ≤ V j) → n ≠ 0 → (∃ j, j < n ∧ lgo V d i le = V j) ∧ ∀ j, j < n → lgo V d i le ≤ V j
  | 0, i, le, h, hh, hn => by
    obtain rfl : i = n := by omega
    exact hh hn
  | d + 1, i, le, h, hh, hn => by
    rw [lgo]
    refine lgo_spec V n d (i + 1) _ (by omega) (fun _ => ?_) hn
    by_cases h0 : i = 0
    · subst h0
      rw [if_pos (.inl rfl)]
      exact ⟨⟨0, by omega, rfl⟩, fun j hj => by
        obtain rfl : j = 0 := by omega
        exact Int.le_refl _⟩
    · obtain ⟨⟨j0, h1, h2⟩, h3⟩ := hh h0
      by_cases h4 : V i < le
      · rw [if_pos (.inr h4)]
        refine ⟨⟨i, by omega, rfl⟩, fun j hj => ?_⟩
        by_cases e : j = i
        · rw [e]; exact Int.le_refl _
        · have := h3 j (by omega); omega
      · rw [if_neg (by rintro (q | q) <;> omega)]
        refine ⟨⟨j0, by omega, h2⟩, fun j hj => ?_⟩
        by_cases e : j = i
        · rw [e]; omega
        · exact h3 j (by omega)
def leastV (l : List S55) (b : List Int) : Int := lgo (fun j => carr l (rd_T55 l (j : Int)).f0 b) l.length 0 0
theorem leastV_of {l : List S55} {b : List Int} {m : MapD} (h : ByD l b m) : leastGo m l l.length 0 0 = leastV l b := by
  rw [leastGo_lgo]
  unfold leastV
  congr 1
  funext j
  exact h.val _
theorem leastV_nil {l : List S55} (h : l.length = 0) (b : List Int) : leastV l b = 0 := by
  unfold leastV
  rw [h]
  rfl
theorem leastV_spec {l : List S55} (h : l.length ≠ 0) (b : List Int) : (∃ j, j < l.length ∧ leastV l b = carr l (rd_T55 l (j : Int)).f0 b) ∧ ∀ j : Nat, j < l.length → leastV l b ≤ carr l (rd_T55 l (j : Int)).f0 b :=
  lgo_spec (fun j => carr l (rd_T55 l (j : Int)).f0 b) l.length l.length 0 0 (by omega) (fun q => absurd rfl q) h
open Classical in
noncomputable def fairP (l : List S55) : List (List Int) → S80 → Int → S80 × Int
  | [], b, wv => (b, wv)
  | s :: r, b, wv => if leastV l s > wv ∨ (leastV l s = wv ∧ GoodE (tot l s) s b.f1 b.f0) then fairP l r ⟨s, tot l s⟩ (leastV l s) else fairP l r b wv
theorem fairGo_ev {l : List S55} (hl : GoodPasses l) {gap : Int} : ∀ (bs : List (List Int)) (b : S80) (wv : Int), (∀ s ∈ bs, Ok l gap s) → b.f0.length ≤ 100 → Ev (fun k => fairGo k l bs b wv) (fairP l bs b wv)
  | [], b, wv, _, _ => by
    simp only [fairGo, fairP]
    exact Ev.now _
  | s :: r, b, wv, hs, hb => by
    have ho := hs s (List.mem_cons_self ..)
    have ht := ho.tot hl
    have hr : ∀ s ∈ r, Ok l gap s := fun x hx => hs x (List.mem_cons_of_mem _ hx)
    obtain ⟨m, h1, h2⟩ := byD_ev hl ho.inside ht.1
    simp only [fairGo]
    refine Ev.bind h1 ?_
    have h3 := contact_total_ev hl ho.book
    rw [totalV_all] at h3
    refine Ev.bind h3 ?_
    have ih1 := fairGo_ev hl r ⟨s, tot l s⟩ (leastV l s) hr ht.1
    have ih2 := fairGo_ev hl r b wv hr hb
    simp only [if_pos (show s.length < 1000000 by omega), leastV_of h2]
    by_cases c1 : leastV l s > wv
    · simp only [if_pos c1]
      refine Ev.eq_to ih1 ?_
      rw [fairP, if_pos (.inl c1)]
    · simp only [if_neg c1]
      by_cases c2 : leastV l s = wv
      · obtain ⟨q, h4, h5, h6⟩ := better_is2 ⟨s, tot l s⟩ b (by show s.length ≤ 1000; omega) (by omega)
        simp only [if_pos c2]
        refine Ev.bind h4 ?_
        cases q with
        | true =>
          simp only [if_true]
          refine Ev.eq_to ih1 ?_
          rw [fairP, if_pos (.inr ⟨c2, h5 rfl⟩)]
        | false =>
          simp only [if_neg Bool.false_ne_true]
          refine Ev.eq_to ih2 ?_
          rw [fairP]
          by_cases c3 : leastV l s > wv ∨ (leastV l s = wv ∧ GoodE (tot l s) s b.f1 b.f0)
          · rw [if_pos c3]
            rcases c3 with c3 | ⟨_, c3⟩
            · exact absurd c3 c1
            · obtain ⟨e1, e2⟩ := GoodE.antisymm c3 (h6 rfl)
              have e : b = ⟨s, tot l s⟩ := by
                cases b
                simp only at e1 e2
                rw [← e2, ← e1]
              rw [c2, ← e]
          · rw [if_neg c3]
      · simp only [if_neg c2]
        refine Ev.eq_to ih2 ?_
        rw [fairP, if_neg]
        rintro (q | ⟨q, _⟩)
        · exact c1 q
        · exact c2 q
noncomputable def fairR (l : List S55) (gap : Int) : S80 × Int := fairP l (BK l gap (2 ^ l.length)) (⟨[], 0⟩ : S80) (-1)
noncomputable def fairV (l : List S55) (gap : Int) : List Int × Int × Bool × Int :=
  if gapF l gap = 0 then (if l.length > 12 then ([], 0, false, 0) else ((fairR l gap).1.f0, (fairR l gap).2, true, 0)) else ([], 0, false, gapF l gap)
theorem contact_Fair_ev (l : List S55) (gap : Int) : Ev (fun k => contact_Fair.f k l gap) (fairV l gap) := by
  simp only [contact_Fair.f]
  refine Ev.bind (contact_CheckPasses_ev l) ?_
  simp only [kit_Range_eq, Option.bind_some]
  refine Ev.bind (kit_First_ev _ (by simp)) ?_
  show Ev (fun n => if gapF l gap = 0 then _ else _) _
  unfold fairV
  by_cases h : gapF l gap = 0
  · obtain ⟨hc, hg⟩ := gapF_zero.1 h
    have hl := checkV_zero hc
    simp only [if_pos h]
    by_cases hn : l.length > 12
    · simp only [if_pos (show (l.length : Int) > 12 by omega), if_pos hn]
      exact Ev.now _
    · have hall : (l.all fun x => decide (x.f0.size ≤ 1000)) = true := by
        rw [List.all_eq_true]
        intro x hx
        obtain ⟨i, hi, rfl⟩ := List.getElem_of_mem hx
        have := name_size (hl.each i hi)
        have e : rd_T55 l (i : Int) = l[i] := by unfold rd_T55; simp [List.getD_eq_getElem?_getD, List.getElem?_eq_getElem hi]
        rw [e] at this
        simp only [decide_eq_true_eq]
        omega
      have hp := pow_bd (n := l.length) (by omega)
      have hbl := BK_len l gap (2 ^ l.length)
      simp only [if_neg (show ¬ (l.length : Int) > 12 by omega), if_neg hn, if_pos hall]
      refine Ev.bind (contact_bookings_ev hl hg (by omega)) ?_
      simp only [if_pos (show (BK l gap (2 ^ l.length)).length < 1000000000 by omega)]
      exact Ev.bind (fairGo_ev hl (gap := gap) _ _ _ (fun s hs => BK_mem h _ hs) (Nat.zero_le _)) (Ev.now _)
  · simp only [if_neg h]
    exact Ev.now _
end Go.Proofs.YtbngmblgkkdhpaaDoor.Q
