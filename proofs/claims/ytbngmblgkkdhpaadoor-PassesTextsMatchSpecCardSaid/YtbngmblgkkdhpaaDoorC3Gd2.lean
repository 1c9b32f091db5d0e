-- Made by wip/tools/claimp.py of this session's texts; Lean checks it.
import Derived.Test.YtbngmblgkkdhpaaDoorC3Q0
import Derived.Test.YtbngmblgkkdhpaaDoorC3Gd1
namespace Go.Proofs.YtbngmblgkkdhpaaDoor.Q
open Go.RowKit Go.Proofs.YtbngmblgkkdhpaaDoorW.PrintWords Go.Proofs.YtbngmblgkkdhpaaDoorW.PrintLast Go.Proofs.YtbngmblgkkdhpaaDoorW.PrintMore
attribute [local go_sem] max2_int min2_int max_two min_two max_three min_three max_four min_four
open Go.Proofs.YtbngmblgkkdhpaaDoor.Base
attribute [local go_sem high] str_leq str_gtr str_geq
set_option linter.unusedVariables false
set_option linter.unusedSimpArgs false
def itoaB (n : Int) : ByteArray := ⟨(Lib.itoa n).toArray⟩
def lineB (h s : ByteArray) (a b : Int) : ByteArray := (((((h ++ s) ++ (⟨#[32]⟩ : ByteArray)) ++ itoaB a) ++ (⟨#[32]⟩ : ByteArray)) ++ itoaB b) ++ (⟨#[10]⟩ : ByteArray)
def rateB (a b : Int) : ByteArray := (((⟨#[114, 97, 116, 101, 32]⟩ : ByteArray) ++ itoaB a) ++ (⟨#[32]⟩ : ByteArray)) ++ itoaB b ++ (⟨#[10]⟩ : ByteArray)
def passH : ByteArray := ⟨#[112, 97, 115, 115, 32]⟩
def textS (l : List S62) : List UInt8 := l.flatMap fun s => (rateB s.f0 s.f1).data.toList
def textP (l : List S55) : List UInt8 := l.flatMap fun x => (lineB passH x.f0 x.f1 x.f2).data.toList ++ textS x.f3
def in64 (a : Int) : Bool := decide (-9223372036854775808 ≤ a ∧ a ≤ 9223372036854775807)
def lineOK (h s : ByteArray) (a b : Int) : Bool := in64 a && in64 b && decide ((lineB h s a b).size ≤ 100000)
def rateOK (a b : Int) : Bool := in64 a && in64 b && decide ((rateB a b).size ≤ 100000)
def textOK (l : List S55) : Bool := (l.all fun x => lineOK passH x.f0 x.f1 x.f2 && x.f3.all fun s => rateOK s.f0 s.f1) && decide ((textP l).length ≤ 1000000000)
def contact_Text.f (k : Nat) (l0 : List S55) : Option (ByteArray × Int) :=
  (contact_CheckPasses.f k l0).bind fun c => if c = 0 then (if textOK l0 = true then (if (textP l0).length > 200000 then some (⟨#[]⟩, 2) else some (⟨(textP l0).toArray⟩, 0)) else none) else some (⟨#[]⟩, c)
theorem textP_snoc {l : List S55} {i : Nat} (h : i < l.length) : textP (l.take (i + 1)) = textP (l.take i) ++ ((lineB passH (rd_T55 l (i : Int)).f0 (rd_T55 l (i : Int)).f1 (rd_T55 l (i : Int)).f2).data.toList ++ textS (rd_T55 l (i : Int)).f3) := by
  rw [List.take_succ_eq_append_getElem h]
  unfold textP rd_T55
  rw [List.flatMap_append]
  congr 1
  simp only [List.flatMap_cons, List.flatMap_nil, List.append_nil, Int.toNat_natCast, List.getD_eq_getElem?_getD, List.getElem?_eq_getElem h, Option.getD_some]
theorem textS_snoc {l : List S62} {i : Nat} (h : i < l.length) : textS (l.take (i + 1)) = textS (l.take i) ++ (rateB (rd_T62 l (i : Int)).f0 (rd_T62 l (i : Int)).f1).data.toList := by
  rw [List.take_succ_eq_append_getElem h]
  unfold textS rd_T62
  rw [List.flatMap_append]
  congr 1
  simp only [List.flatMap_cons, List.flatMap_nil, List.append_nil, Int.toNat_natCast, List.getD_eq_getElem?_getD, List.getElem?_eq_getElem h, Option.getD_some]
theorem textP_part (l : List S55) (i : Nat) : (textP (l.take i)).length ≤ (textP l).length := by
  have := congrArg List.length (congrArg textP (List.take_append_drop i l))
  unfold textP at this ⊢
  rw [List.flatMap_append, List.length_append] at this
  omega
theorem textS_part (l : List S62) (i : Nat) : (textS (l.take i)).length ≤ (textS l).length := by
  have := congrArg List.length (congrArg textS (List.take_append_drop i l))
  unfold textS at this ⊢
  rw [List.flatMap_append, List.length_append] at this
  omega
theorem line_size (h s ta tb : ByteArray) : ((((((h ++ s) ++ (⟨#[32]⟩ : ByteArray)) ++ ta) ++ (⟨#[32]⟩ : ByteArray)) ++ tb) ++ (⟨#[10]⟩ : ByteArray)).size = h.size + s.size + 1 + ta.size + 1 + tb.size + 1 := by
  simp only [ByteArray.size_append]
  rfl
theorem rate_size (ta tb : ByteArray) : (((((⟨#[114, 97, 116, 101, 32]⟩ : ByteArray) ++ ta) ++ (⟨#[32]⟩ : ByteArray)) ++ tb) ++ (⟨#[10]⟩ : ByteArray)).size = 5 + ta.size + 1 + tb.size + 1 := by
  simp only [ByteArray.size_append]
  rfl
theorem in64_out {a : Int} (h : in64 a = true) : -9223372036854775808 ≤ a ∧ a ≤ 9223372036854775807 := of_decide_eq_true h
theorem line_parts {h s : ByteArray} {a b : Int} (ok : lineOK h s a b = true) : (-9223372036854775808 ≤ a ∧ a ≤ 9223372036854775807) ∧ (-9223372036854775808 ≤ b ∧ b ≤ 9223372036854775807) ∧ h.size + s.size + 1 + (itoaB a).size + 1 + (itoaB b).size + 1 ≤ 100000 := by
  unfold lineOK at ok
  simp only [Bool.and_eq_true, decide_eq_true_eq] at ok
  refine ⟨in64_out ok.1.1, in64_out ok.1.2, ?_⟩
  have := ok.2
  unfold lineB at this
  rw [line_size] at this
  exact this
theorem rate_parts {a b : Int} (ok : rateOK a b = true) : (-9223372036854775808 ≤ a ∧ a ≤ 9223372036854775807) ∧ (-9223372036854775808 ≤ b ∧ b ≤ 9223372036854775807) ∧ 5 + (itoaB a).size + 1 + (itoaB b).size + 1 ≤ 100000 := by
  unfold rateOK at ok
  simp only [Bool.and_eq_true, decide_eq_true_eq] at ok
  refine ⟨in64_out ok.1.1, in64_out ok.1.2, ?_⟩
  have := ok.2
  unfold rateB at this
  rw [rate_size] at this
  exact this
theorem lineB_pos (h s : ByteArray) (a b : Int) : 1 ≤ (lineB h s a b).data.toList.length := by
  have e : (lineB h s a b).data.toList.length = (lineB h s a b).size := by rw [Array.length_toList]; rfl
  unfold lineB at e ⊢
  rw [line_size] at e
  omega
theorem rateB_pos (a b : Int) : 1 ≤ (rateB a b).data.toList.length := by
  have e : (rateB a b).data.toList.length = (rateB a b).size := by rw [Array.length_toList]; rfl
  unfold rateB at e ⊢
  rw [rate_size] at e
  omega
theorem line_count_P : ∀ l : List S55, l.length ≤ (textP l).length
  | [] => Nat.le_refl _
  | x :: l => by
    have h := line_count_P l
    unfold textP at h ⊢
    rw [List.flatMap_cons, List.length_append, List.length_cons, List.length_append]
    have := lineB_pos passH x.f0 x.f1 x.f2
    omega
theorem line_count_S : ∀ l : List S62, l.length ≤ (textS l).length
  | [] => Nat.le_refl _
  | x :: l => by
    have h := line_count_S l
    unfold textS at h ⊢
    rw [List.flatMap_cons, List.length_append, List.length_cons]
    have := rateB_pos x.f0 x.f1
    omega
theorem ib_below {T e B b : Nat} {bs : List Value} {W W2 : World} (h : Lib.IsBuilderF T e B b bs W) (hb : Below W.heap.size W W2) : Lib.IsBuilderF T e B b bs W2 := by
  have key : ∀ p, Lib.BuilderAtF T e B b p bs W → Lib.BuilderAtF T e B b p bs W2 := by
    rintro p ⟨h1, v, h2, ⟨h3, h4⟩, h5⟩
    refine ⟨h1, v, blk_below h2 hb, ⟨h3, ?_⟩, h5⟩
    rcases h4 with h4 | ⟨g, cap, cur, fz, q1, q2, q3, q4⟩
    · exact .inl h4
    · exact .inr ⟨g, cap, cur, fz, q1, q2, blk_below q3 hb, q4⟩
  rcases h with h | h
  · exact .inl (key _ h)
  · exact .inr (key _ h)
theorem ib_ne {T e B b g t : Nat} {bs : List Value} {cs : Array Value} {W : World} (h : Lib.IsBuilderF T e B b bs W) (hb : W.heap[g]? = some (.cells cs t (0, 0))) (hne : t ≠ T) : g ≠ b := by
  rintro rfl
  rcases h with ⟨_, v, h2, _⟩ | ⟨_, v, h2, _⟩ <;> (rw [h2] at hb; cases hb; exact hne rfl)
theorem blk_others {b g t : Nat} {cs : Array Value} {W W2 : World} (ho : Lib.OthersKept 5 (some b) W W2) (hb : W.heap[g]? = some (.cells cs t (0, 0))) (hg : g ≠ b) (ht : t ≠ 5) : W2.heap[g]? = some (.cells cs t (0, 0)) :=
  ho g _ hb (fun e => hg (by injection e)) (fun c fz e => ht (by injection e))
theorem bld_write (B b : Nat) (bs : List Value) (s : ByteArray) (w : World) (h : Lib.IsBuilderF 52 5 B b bs w) (hlen : bs.length + s.size ≤ 140737488355328) (hBw : B ≤ w.heap.size) :
    Calls Tryd.prog 25 #[.pointer (some ⟨b, 0, none⟩), .string s] w fun e w' => e = .returned (.tuple #[.int .i64 s.size, .nilIface]) ∧ Lib.BuilderAtF 52 5 B b (.pointer (some ⟨b, 0, none⟩)) (bs ++ Lib.strCells s) w' ∧ Below B w w' ∧ Lib.OthersKept 5 (some b) w w' := Any.Builder_WriteString_k Tryd.lays166 Tryd.Builder_Extra_166 B b bs s w h hlen hBw
theorem bld_len (B b : Nat) (bs : List Value) (w : World) (h : Lib.IsBuilderF 52 5 B b bs w) :
    Calls Tryd.prog 27 #[.pointer (some ⟨b, 0, none⟩)] w fun e w' => e = .returned (.int .i64 bs.length) ∧ w' = w := Any.Builder_Len_f Tryd.lays170 B b bs w h
theorem bld_string (B b : Nat) (l : List UInt8) (w : World) (h : Lib.IsBuilderF 52 5 B b (Lib.byteCells l) w) (hBw : B ≤ w.heap.size) :
    Calls Tryd.prog 28 #[.pointer (some ⟨b, 0, none⟩)] w fun e w' => e = .returned (.string ⟨l.toArray⟩) ∧ Lib.IsBuilderF 52 5 B b (Lib.byteCells l) w' ∧ Below B w w' := Any.Builder_String_any_f Tryd.lays169 Tryd.Builder_Extra_169 B b l w h hBw
theorem str_bytes (l : List UInt8) (s : ByteArray) : Lib.byteCells l ++ Lib.strCells s = Lib.byteCells (l ++ s.data.toList) := by
  unfold Lib.byteCells Lib.strCells
  rw [List.map_append]
theorem tx_world {PP : Program} {md : Region.Mode} {ops : Array Oper} {Q : Exit → Act → World → Prop} {S : World → Prop} {ds : List Nat} {fuel : Nat} {l : Array Bool} {a : Act} {w : World} (R : World → Prop) (hR : R w) (hS : S w) (h : ∀ w', R w' → S w' → wpAnyLast PP md ops Q S ds fuel l a w') : wpAnyLast PP md ops Q S ds fuel l a w := h w hR hS
set_option maxHeartbeats 8000000 in
set_option maxRecDepth 100000 in
theorem contact_Text.calls (k : Nat) (A0 : Option Addr) (c0 : Nat) (l0 : List S55) (r1 : ByteArray) (r2 : Int) (w : World) (hr0 : Kd.C k55 w A0 l0.length l0) (hc0 : l0.length ≤ c0) (hV : VarsOK w) (h : contact_Text.f k l0 = some (r1, r2)) :
    Calls Tryd.prog 7 #[.slice A0 l0.length c0] w fun e w' => e = .returned (.tuple #[.string r1, .int .i64 r2]) ∧ Below w.heap.size w w' := by
  have HV := Aside0.mk hV
  have HR0 := Aside0.mk hr0
  have HC0 := Aside0.mk hc0
  clear hV hr0 hc0
  unfold contact_Text.f at h
  replace h := Option.bind_eq_some_iff.mp h
  obtain ⟨c, hc, h⟩ := h
  have A1_ := Aside0.mk hc
  clear hc
  by_cases h0 : c = 0
  · subst h0
    rw [if_pos rfl] at h
    obtain ⟨hok, h⟩ := guardT h
    have hok2 := hok
    unfold textOK at hok2
    simp only [Bool.and_eq_true, List.all_eq_true, decide_eq_true_eq] at hok2
    have OKL := Aside0.mk hok2.1
    have OKS := Aside0.mk hok2.2
    have HH := Aside0.mk h
    clear hok hok2 h
    go_enter Tryd.func7, Tryd.ntmps7
    go_wp2_with (first | (go_at_call 24; go_loud (with_reducible refine (contact_CheckPasses.calls k _ _ l0 _ _ HR0.out HC0.out A1_.out).mono ?_); rintro e w5 ⟨rfl, hb5⟩; have HB5 := Aside0.mk hb5; clear hb5) | ((with_reducible refine gate_dst (N := 5) rfl ?_); refine box_event ?hg (N := 5) ?hd (cs := #[.pointer none, .slice none 0 0]) (t := 52) ?hr ?_; (case hd => rfl); (case hg => rfl); (case hr => first | (go_simp; done) | (go_simp; rfl)); intro g7 hg_ w7 hbox hb; have HB7 := Aside0.mk (below_step HB5.out hb); have HI7 := Aside0.mk (show Lib.IsBuilderF 52 5 w.heap.size g7 (Lib.byteCells []) w7 from Lib.IsBuilderF.of (.inl ⟨by rw [hg_]; exact HB5.out.size, .slice none 0 0, hbox, ⟨rfl, .inl ⟨rfl, rfl⟩⟩, by simp [Value.ownBlock]⟩)); clear hbox hb hg_))
    have HMAX := Aside0.mk (show l0.length < 1000000000000 by have h1 := OKS.out; have h2 := line_count_P l0; omega)
    go_loopg [17] l0.length (fun kq v_ w' => ∃ i : Nat, v_ = .int .i64 (i : Int) ∧ Aside0 (kq + i = l0.length) ∧ Aside0 (Below w.heap.size w w') ∧ Aside0 (Lib.IsBuilderF 52 5 w.heap.size g7 (Lib.byteCells (textP (l0.take i))) w'))
    case atStart => exact ⟨0, rfl, ⟨rfl⟩, HB7, HI7⟩
    case round =>
      clear HB7 HI7 HB5
      obtain ⟨i, rfl, HK, HB, HI⟩ := hrel
      cases gk with
      | zero =>
        have hi : i = l0.length := by have := HK.out; omega
        subst hi
        have HIf := Aside0.mk (show Lib.IsBuilderF 52 5 w.heap.size g7 (Lib.byteCells (textP l0)) wr by have := HI.out; rwa [List.take_length] at this)
        have HBf := HB
        clear HB HI HK
        have h := HH.out
        obtain ⟨tt, htt⟩ : ∃ tt, tt = textP l0 := ⟨_, rfl⟩
        rw [← htt] at h HIf
        have HS := OKS
        rw [← htt] at HS
        have HTT := Aside0.mk htt
        clear htt
        by_cases h5 : tt.length > 200000
        · rw [if_pos h5] at h
          have hd5 : decide (200000 < (tt.length : Int)) = true := decide_eq_true (by omega)
          have hd6 : decide (200000 < tt.length) = true := decide_eq_true h5
          simp only [Option.some.injEq, Prod.mk.injEq] at h
          obtain ⟨rfl, rfl⟩ := h
          clear h5
          go_wp2_with (first | (go_at_call 27; go_loud (refine (bld_len w.heap.size g7 _ _ HIf.out).mono ?_); rintro e w_ ⟨rfl, rfl⟩; rw [Lib.byteCells_length]) | (go_at_call 28; go_loud (refine (bld_string w.heap.size g7 tt _ HIf.out HBf.out.size).mono ?_); rintro e wg ⟨rfl, _, hbg⟩; have HBg := Aside0.mk (HBf.out.trans hbg); clear hbg))
          refine bodyPost_ret (results_list (rs := [.tmp 2, .tmp 3]) rfl (by simp) (.tmp (.tmp .nil))) rfl ?_
          exact ⟨rfl, by repeat (first | exact HBf.out | apply pw_below_drewN)⟩
        · rw [if_neg h5] at h
          have hd5 : decide (200000 < (tt.length : Int)) = false := decide_eq_false (by omega)
          have hd6 : decide (200000 < tt.length) = false := decide_eq_false h5
          simp only [Option.some.injEq, Prod.mk.injEq] at h
          obtain ⟨rfl, rfl⟩ := h
          clear h5
          go_wp2_with (first | (go_at_call 27; go_loud (refine (bld_len w.heap.size g7 _ _ HIf.out).mono ?_); rintro e w_ ⟨rfl, rfl⟩; rw [Lib.byteCells_length]) | (go_at_call 28; go_loud (refine (bld_string w.heap.size g7 tt _ HIf.out HBf.out.size).mono ?_); rintro e wg ⟨rfl, _, hbg⟩; have HBg := Aside0.mk (HBf.out.trans hbg); clear hbg))
          refine bodyPost_ret (results_list (rs := [.tmp 2, .tmp 3]) rfl (by simp) (.tmp (.tmp .nil))) rfl ?_
          exact ⟨rfl, by repeat (first | exact HBg.out | apply pw_below_drewN)⟩
      | succ d =>
        have hi : i < l0.length := by have := HK.out; omega
        have hi0 : (0 : Int) ≤ (i : Int) := by omega
        have hi1 : (i : Int) < (l0.length : Int) := by omega
        have hd1 : decide ((i : Int) < (l0.length : Int)) = true := decide_eq_true hi1
        obtain ⟨ad, A3, c3, e, hx0, hx1, hx2, hx3, hl3, hi3⟩ := at_T55 HR0.out (i : Int) hi0 hi1
        subst e
        replace hx0 := cellB HB.out hx0
        replace hx1 := cellB HB.out hx1
        replace hx2 := cellB HB.out hx2
        replace hx3 := cellB HB.out hx3
        simp only [Int.toNat_natCast] at hx0 hx1 hx2 hx3
        have hsn := textP_snoc hi
        have hpt := textP_part l0 (i + 1)
        have hlo := OKL.out (rd_T55 l0 (i : Int)) (by unfold rd_T55; simp [List.getD_eq_getElem?_getD, List.getElem?_eq_getElem hi])
        obtain ⟨x, hx⟩ : ∃ x, x = rd_T55 l0 (i : Int) := ⟨_, rfl⟩
        rw [← hx] at hsn hlo hx0 hx1 hx2 hx3 hl3 hi3
        have hlp := line_parts hlo.1
        have HRO := Aside0.mk hlo.2
        have HR3 := Aside0.mk hi3
        have HC3 := Aside0.mk hl3
        rw [hsn, List.length_append, List.length_append] at hpt
        have HIA := Aside0.mk (show strconv_Itoa.f x.f1 = some (itoaB x.f1) from if_pos hlp.1)
        have HIB := Aside0.mk (show strconv_Itoa.f x.f2 = some (itoaB x.f2) from if_pos hlp.2.1)
        have hls : (lineB passH x.f0 x.f1 x.f2) = (((((passH ++ x.f0) ++ (⟨#[32]⟩ : ByteArray)) ++ itoaB x.f1) ++ (⟨#[32]⟩ : ByteArray)) ++ itoaB x.f2) ++ (⟨#[10]⟩ : ByteArray) := rfl
        have hls2 : (lineB passH x.f0 x.f1 x.f2).data.toList.length = (lineB passH x.f0 x.f1 x.f2).size := by rw [Array.length_toList]; rfl
        rw [hls2] at hpt
        rw [hls] at hsn hpt
        obtain ⟨ta, hta⟩ : ∃ ta, ta = itoaB x.f1 := ⟨_, rfl⟩
        obtain ⟨tb, htb⟩ : ∃ tb, tb = itoaB x.f2 := ⟨_, rfl⟩
        have hs := hlp.2.2
        rw [← hta, ← htb] at hs hsn hpt
        rw [← hta] at HIA
        rw [← htb] at HIB
        have hs : 5 + x.f0.size + 1 + ta.size + 1 + tb.size + 1 ≤ 100000 := hs
        have z0 : (9223372036854775807 < 5 + x.f0.size ) = False := eq_false (by omega)
        have z1 : (9223372036854775807 < 5 + x.f0.size + 1) = False := eq_false (by omega)
        have z2 : (9223372036854775807 < 5 + x.f0.size + 1 + ta.size) = False := eq_false (by omega)
        have z3 : (9223372036854775807 < 5 + x.f0.size + 1 + ta.size + 1) = False := eq_false (by omega)
        have z4 : (9223372036854775807 < 5 + x.f0.size + 1 + ta.size + 1 + tb.size) = False := eq_false (by omega)
        have z5 : (9223372036854775807 < 5 + x.f0.size + 1 + ta.size + 1 + tb.size + 1) = False := eq_false (by omega)
        have HPT := Aside0.mk (show (textP (l0.take i)).length + ((((((((⟨#[112, 97, 115, 115, 32]⟩ : ByteArray) ++ x.f0) ++ (⟨#[32]⟩ : ByteArray)) ++ ta) ++ (⟨#[32]⟩ : ByteArray)) ++ tb) ++ (⟨#[10]⟩ : ByteArray)).size + (textS x.f3).length) ≤ 1000000000 from Nat.le_trans hpt OKS.out)
        have HSN := Aside0.mk (show textP (l0.take (i + 1)) = textP (l0.take i) ++ ((((((((⟨#[112, 97, 115, 115, 32]⟩ : ByteArray) ++ x.f0) ++ (⟨#[32]⟩ : ByteArray)) ++ ta) ++ (⟨#[32]⟩ : ByteArray)) ++ tb) ++ (⟨#[10]⟩ : ByteArray)).data.toList ++ textS x.f3) from hsn)
        have HSZ := Aside0.mk hs
        clear hsn hs hls hls2 hpt hlp hlo hx hta htb hi hi3 hl3
        go_wp2_with (first | ((with_reducible refine gate_dst (N := 7) rfl ?_); refine box_event ?hg (N := 7) ?hd (cs := #[.string ByteArray.empty, .int .i64 0, .int .i64 0, .slice none 0 0]) (t := 55) ?hr ?_; (case hd => rfl); (case hg => rfl); (case hr => first | (go_simp; done) | (go_simp; rfl)); intro gb hg_ w8 hbox hb; have GB := Aside0.mk hg_; have BK := Aside0.mk hbox; have HW := Aside0.mk hb; have hy0 : w8.cell? ⟨gb, 0, none⟩ = some (.string ByteArray.empty) := (blk_cell hbox 0).trans rfl; have hf0 := blk_frozen hbox 0; have hy1 : w8.cell? ⟨gb, 1, none⟩ = some (.int .i64 0) := (blk_cell hbox 1).trans rfl; have hf1 := blk_frozen hbox 1; have hy2 : w8.cell? ⟨gb, 2, none⟩ = some (.int .i64 0) := (blk_cell hbox 2).trans rfl; have hf2 := blk_frozen hbox 2; have hy3 : w8.cell? ⟨gb, 3, none⟩ = some (.slice none 0 0) := (blk_cell hbox 3).trans rfl; have hf3 := blk_frozen hbox 3; clear hbox hb hg_))
        have n0_ : Aside0 (((((w8.setCell ⟨gb, 0, none⟩ (.string x.f0)).setCell ⟨gb, 1, none⟩ (.int .i64 x.f1)).setCell ⟨gb, 2, none⟩ (.int .i64 x.f2)).setCell ⟨gb, 3, none⟩ (.slice A3 x.f3.length c3)).heap[gb]? = some (.cells #[.string x.f0, .int .i64 x.f1, .int .i64 x.f2, .slice A3 x.f3.length c3] 55 (0, 0))) := ⟨blk_set (blk_set (blk_set (blk_set BK.out 0 _) 1 _) 2 _) 3 _⟩
        have n1_ : Aside0 (Below wr.heap.size wr ((((w8.setCell ⟨gb, 0, none⟩ (.string x.f0)).setCell ⟨gb, 1, none⟩ (.int .i64 x.f1)).setCell ⟨gb, 2, none⟩ (.int .i64 x.f2)).setCell ⟨gb, 3, none⟩ (.slice A3 x.f3.length c3))) := ⟨below_set (below_set (below_set (below_set HW.out (Nat.le_of_eq GB.out.symm)) (Nat.le_of_eq GB.out.symm)) (Nat.le_of_eq GB.out.symm)) (Nat.le_of_eq GB.out.symm)⟩
        clear BK HW GB hx0 hx1 hx2 hx3 hy0 hy1 hy2 hy3 hf0 hf1 hf2 hf3
        generalize ((((w8.setCell ⟨gb, 0, none⟩ (.string x.f0)).setCell ⟨gb, 1, none⟩ (.int .i64 x.f1)).setCell ⟨gb, 2, none⟩ (.int .i64 x.f2)).setCell ⟨gb, 3, none⟩ (.slice A3 x.f3.length c3)) = w9 at n0_ n1_ ⊢
        have BK := n0_
        have HW := n1_
        clear n0_ n1_
        refine start_ (n := 15) (S := fun w' => w'.cell? ⟨gb, 0, none⟩ = some (.string x.f0) ∧ w'.cell? ⟨gb, 1, none⟩ = some (.int .i64 x.f1) ∧ w'.cell? ⟨gb, 2, none⟩ = some (.int .i64 x.f2)) (ds := [14]) #[false, false, false, false, false, false, false, false, false, false, false, false, false, false, false] (by kernel_rfl) rfl rfl ⟨(blk_cell BK.out 0).trans rfl, (blk_cell BK.out 1).trans rfl, (blk_cell BK.out 2).trans rfl⟩ (fun hHeld => ?_)
        refine tx_world (R := fun W2 => Below wr.heap.size wr W2 ∧ W2.heap[gb]? = some (.cells #[.string x.f0, .int .i64 x.f1, .int .i64 x.f2, .slice A3 x.f3.length c3] 55 (0, 0))) ⟨below_drew1 HW.out, blk_drew BK.out⟩ hHeld (fun W2 hR2 hHeld => ?_)
        have HW2 := Aside0.mk hR2.1
        have BK2 := Aside0.mk hR2.2
        clear hR2 HW BK
        refine pure_ (i := 0) (N := some 21) (v := ?_) (a' := ?_) #[true, false, false, false, false, false, false, false, false, false, false, false, false, false, false] rfl rfl (by kernel_rfl) (fun _ _ _ h => h) (Or.inl ⟨by rfl, ?_⟩) ?_ ?_
        rotate_left
        · intro w'
          go_simp
          with_reducible rfl
        rotate_left
        · simp only [Act.put, List.setIfInBounds_toArray, List.set_cons_zero, List.set_cons_succ, i64_w, i32_w]
          rfl
        refine take_ (i := 1) (N := some 22) (v := ?_) (a' := ?_) #[true, true, false, false, false, false, false, false, false, false, false, false, false, false, false] rfl rfl (by kernel_rfl) (fun _ _ _ h => h) (Or.inl ⟨by rfl, ?_⟩) hHeld ?_ ?_
        rotate_left
        · rintro w' ⟨s0, s1, s2⟩
          go_simp
          with_reducible rfl
        rotate_left
        · simp only [Act.put, List.setIfInBounds_toArray, List.set_cons_zero, List.set_cons_succ, i64_w, i32_w]
          rfl
        refine pure_ (i := 2) (N := some 23) (v := ?_) (a' := ?_) #[true, true, true, false, false, false, false, false, false, false, false, false, false, false, false] rfl rfl (by kernel_rfl) (fun _ _ _ h => h) (Or.inl ⟨by rfl, ?_⟩) ?_ ?_
        rotate_left
        · intro w'
          go_simp
          with_reducible rfl
        rotate_left
        · simp only [Act.put, List.setIfInBounds_toArray, List.set_cons_zero, List.set_cons_succ, i64_w, i32_w]
          rfl
        refine pure_ (i := 3) (N := some 24) (v := ?_) (a' := ?_) #[true, true, true, true, false, false, false, false, false, false, false, false, false, false, false] rfl rfl (by kernel_rfl) (fun _ _ _ h => h) (Or.inl ⟨by rfl, ?_⟩) ?_ ?_
        rotate_left
        · intro w'
          go_simp
          with_reducible rfl
        rotate_left
        · simp only [Act.put, List.setIfInBounds_toArray, List.set_cons_zero, List.set_cons_succ, i64_w, i32_w]
          rfl
        refine pure_ (i := 4) (N := some 25) (v := ?_) (a' := ?_) #[true, true, true, true, true, false, false, false, false, false, false, false, false, false, false] rfl rfl (by kernel_rfl) (fun _ _ _ h => h) (Or.inl ⟨by rfl, ?_⟩) ?_ ?_
        rotate_left
        · intro w'
          go_simp
          with_reducible rfl
        rotate_left
        · simp only [Act.put, List.setIfInBounds_toArray, List.set_cons_zero, List.set_cons_succ, i64_w, i32_w]
          rfl
        refine take_ (i := 5) (N := some 26) (v := ?_) (a' := ?_) #[true, true, true, true, true, true, false, false, false, false, false, false, false, false, false] rfl rfl (by kernel_rfl) (fun _ _ _ h => h) (Or.inl ⟨by rfl, ?_⟩) hHeld ?_ ?_
        rotate_left
        · rintro w' ⟨s0, s1, s2⟩
          go_simp
          with_reducible rfl
        rotate_left
        · simp only [Act.put, List.setIfInBounds_toArray, List.set_cons_zero, List.set_cons_succ, i64_w, i32_w]
          rfl
        refine pure_ (i := 9) (N := some 30) (v := ?_) (a' := ?_) #[true, true, true, true, true, true, false, false, false, true, false, false, false, false, false] rfl rfl (by kernel_rfl) (fun _ _ _ h => h) (Or.inl ⟨by rfl, ?_⟩) ?_ ?_
        rotate_left
        · intro w'
          go_simp
          with_reducible rfl
        rotate_left
        · simp only [Act.put, List.setIfInBounds_toArray, List.set_cons_zero, List.set_cons_succ, i64_w, i32_w]
          rfl
        refine take_ (i := 10) (N := some 31) (v := ?_) (a' := ?_) #[true, true, true, true, true, true, false, false, false, true, true, false, false, false, false] rfl rfl (by kernel_rfl) (fun _ _ _ h => h) (Or.inl ⟨by rfl, ?_⟩) hHeld ?_ ?_
        rotate_left
        · rintro w' ⟨s0, s1, s2⟩
          go_simp
          with_reducible rfl
        rotate_left
        · simp only [Act.put, List.setIfInBounds_toArray, List.set_cons_zero, List.set_cons_succ, i64_w, i32_w]
          rfl
        refine one_ (i := 6) (N := some 27) #[true, true, true, true, true, true, true, false, false, true, true, false, false, false, false] rfl rfl (by kernel_rfl) (by decide) (fun K hK => ?_)
        refine goes_ Tryd.func26 (by kernel_rfl) rfl #[.int .i64 x.f1] (by rfl) rfl rfl (by (try simp only [List.map_toArray, List.map_cons, List.map_nil]); first | done | rfl) ?_
        with_reducible refine (strconv_Itoa.calls x.f1 ta _ (HV.out.below (below_step HB.out HW2.out)) HIA.out).mono ?_
        rintro e W3 ⟨rfl, hb⟩
        refine ⟨_, rfl, ?_⟩
        have HW3 := Aside0.mk (below_step HW2.out hb)
        have BK3 := Aside0.mk (blk_below BK2.out hb)
        clear hb HW2 BK2
        refine hK.out _ _ ⟨(blk_cell BK3.out 0).trans rfl, (blk_cell BK3.out 1).trans rfl, (blk_cell BK3.out 2).trans rfl⟩ (fun hHeld => ?_)
        clear hK K
        refine norm_ (a' := ?_) ?_ ?_
        rotate_left
        · show Act.put _ (some 27) _ = _
          simp only [Act.put, List.setIfInBounds_toArray, List.set_cons_zero, List.set_cons_succ, i64_w, i32_w]
          rfl
        refine pure_ (i := 7) (N := some 28) (v := ?_) (a' := ?_) #[true, true, true, true, true, true, true, true, false, true, true, false, false, false, false] rfl rfl (by kernel_rfl) (fun _ _ _ h => h) (Or.inl ⟨by rfl, ?_⟩) ?_ ?_
        rotate_left
        · intro w'
          go_simp
          with_reducible rfl
        rotate_left
        · simp only [Act.put, List.setIfInBounds_toArray, List.set_cons_zero, List.set_cons_succ, i64_w, i32_w]
          rfl
        refine pure_ (i := 8) (N := some 29) (v := ?_) (a' := ?_) #[true, true, true, true, true, true, true, true, true, true, true, false, false, false, false] rfl rfl (by kernel_rfl) (fun _ _ _ h => h) (Or.inl ⟨by rfl, ?_⟩) ?_ ?_
        rotate_left
        · intro w'
          go_simp
          with_reducible rfl
        rotate_left
        · simp only [Act.put, List.setIfInBounds_toArray, List.set_cons_zero, List.set_cons_succ, i64_w, i32_w]
          rfl
        refine one_ (i := 11) (N := some 32) #[true, true, true, true, true, true, true, true, true, true, true, true, false, false, false] rfl rfl (by kernel_rfl) (by decide) (fun K hK => ?_)
        refine goes_ Tryd.func26 (by kernel_rfl) rfl #[.int .i64 x.f2] (by rfl) rfl rfl (by (try simp only [List.map_toArray, List.map_cons, List.map_nil]); first | done | rfl) ?_
        with_reducible refine (strconv_Itoa.calls x.f2 tb _ (HV.out.below (below_step HB.out HW3.out)) HIB.out).mono ?_
        rintro e W4 ⟨rfl, hb⟩
        refine ⟨_, rfl, ?_⟩
        have HW4 := Aside0.mk (below_step HW3.out hb)
        have BK4 := Aside0.mk (blk_below BK3.out hb)
        clear hb HW3 BK3
        refine hK.out _ _ ⟨(blk_cell BK4.out 0).trans rfl, (blk_cell BK4.out 1).trans rfl, (blk_cell BK4.out 2).trans rfl⟩ (fun hHeld => ?_)
        clear hK K
        refine norm_ (a' := ?_) ?_ ?_
        rotate_left
        · show Act.put _ (some 32) _ = _
          simp only [Act.put, List.setIfInBounds_toArray, List.set_cons_zero, List.set_cons_succ, i64_w, i32_w]
          rfl
        refine pure_ (i := 12) (N := some 33) (v := ?_) (a' := ?_) #[true, true, true, true, true, true, true, true, true, true, true, true, true, false, false] rfl rfl (by kernel_rfl) (fun _ _ _ h => h) (Or.inl ⟨by rfl, ?_⟩) ?_ ?_
        rotate_left
        · intro w'
          go_simp
          with_reducible rfl
        rotate_left
        · simp only [Act.put, List.setIfInBounds_toArray, List.set_cons_zero, List.set_cons_succ, i64_w, i32_w]
          rfl
        refine pure_ (i := 13) (N := some 34) (v := ?_) (a' := ?_) #[true, true, true, true, true, true, true, true, true, true, true, true, true, true, false] rfl rfl (by kernel_rfl) (fun _ _ _ h => h) (Or.inl ⟨by rfl, ?_⟩) ?_ ?_
        rotate_left
        · intro w'
          go_simp
          with_reducible rfl
        rotate_left
        · simp only [Act.put, List.setIfInBounds_toArray, List.set_cons_zero, List.set_cons_succ, i64_w, i32_w]
          rfl
        refine last_ (i := 14) (N := some 35) #[true, true, true, true, true, true, true, true, true, true, true, true, true, true, true] rfl rfl (by kernel_rfl) (by decide) (fun K hK => ?_)
        refine goes_ Tryd.func25 (by kernel_rfl) rfl #[.pointer (some ⟨g7, 0, none⟩), .string (((((((⟨#[112, 97, 115, 115, 32]⟩ : ByteArray) ++ x.f0) ++ (⟨#[32]⟩ : ByteArray)) ++ ta) ++ (⟨#[32]⟩ : ByteArray)) ++ tb) ++ (⟨#[10]⟩ : ByteArray))] (by rfl) rfl rfl (by (try simp only [List.map_toArray, List.map_cons, List.map_nil]); first | done | rfl) ?_
        have HLEN : (Lib.byteCells (textP (l0.take i))).length + (((((((⟨#[112, 97, 115, 115, 32]⟩ : ByteArray) ++ x.f0) ++ (⟨#[32]⟩ : ByteArray)) ++ ta) ++ (⟨#[32]⟩ : ByteArray)) ++ tb) ++ (⟨#[10]⟩ : ByteArray)).size ≤ 140737488355328 := by rw [Lib.byteCells_length]; have h1 := HPT.out; omega
        have HIW := ib_below HI.out HW4.out
        refine (bld_write w.heap.size g7 _ (((((((⟨#[112, 97, 115, 115, 32]⟩ : ByteArray) ++ x.f0) ++ (⟨#[32]⟩ : ByteArray)) ++ ta) ++ (⟨#[32]⟩ : ByteArray)) ++ tb) ++ (⟨#[10]⟩ : ByteArray)) _ HIW HLEN (below_step HB.out HW4.out).size).mono ?_
        rintro e W9 ⟨rfl, hat, hbw, hot⟩
        refine ⟨_, rfl, ?_⟩
        rw [str_bytes] at hat
        have HI2 := Aside0.mk (show Lib.IsBuilderF 52 5 w.heap.size g7 (Lib.byteCells (textP (l0.take i) ++ (((((((⟨#[112, 97, 115, 115, 32]⟩ : ByteArray) ++ x.f0) ++ (⟨#[32]⟩ : ByteArray)) ++ ta) ++ (⟨#[32]⟩ : ByteArray)) ++ tb) ++ (⟨#[10]⟩ : ByteArray)).data.toList)) W9 from .inr hat)
        have BK9 := Aside0.mk (blk_others hot BK4.out (ib_ne HIW BK4.out (by decide)) (by decide))
        have HB2 := Aside0.mk (show Below w.heap.size w W9 from (below_step HB.out HW4.out).trans hbw)
        clear hat hbw hot HIW HW4 BK4 HLEN
        refine hK.out _ _ ?_
        clear hK K
        refine norm_ (a' := ?_) ?_ ?_
        rotate_left
        · show Act.put _ (some 35) _ = _
          simp only [Act.put, List.setIfInBounds_toArray, List.set_cons_zero, List.set_cons_succ, i64_w, i32_w]
          rfl
        refine done_ (by kernel_rfl) ?_
        generalize (((((((((⟨#[112, 97, 115, 115, 32]⟩ : ByteArray) ++ x.f0) ++ (⟨#[32]⟩ : ByteArray)) ++ ta) ++ (⟨#[32]⟩ : ByteArray)) ++ tb) ++ (⟨#[10]⟩ : ByteArray)).size : Nat) : Int) = szv
        clear hHeld HB HI
        have HB := HB2
        have HI := HI2
        clear HB2 HI2
        have hc3 : W9.cell? ⟨gb, 3, none⟩ = some (.slice A3 x.f3.length c3) := (blk_cell BK9.out 3).trans rfl
        have HMS := Aside0.mk (show x.f3.length < 1000000000000 by have h1 := HPT.out; have h2 := line_count_S x.f3; omega)
        go_wp2
        have HIx := HI
        have HBx := HB
        clear HI HB BK9 hc3
        obtain ⟨pre, hpre⟩ : ∃ pre, pre = textP (l0.take i) ++ (((((((⟨#[112, 97, 115, 115, 32]⟩ : ByteArray) ++ x.f0) ++ (⟨#[32]⟩ : ByteArray)) ++ ta) ++ (⟨#[32]⟩ : ByteArray)) ++ tb) ++ (⟨#[10]⟩ : ByteArray)).data.toList := ⟨_, rfl⟩
        rw [← List.append_assoc, ← hpre] at HSN
        rw [← hpre] at HIx
        have HPL := Aside0.mk (show pre.length + (textS x.f3).length ≤ 1000000000 by have h1 := HPT.out; have e : (((((((⟨#[112, 97, 115, 115, 32]⟩ : ByteArray) ++ x.f0) ++ (⟨#[32]⟩ : ByteArray)) ++ ta) ++ (⟨#[32]⟩ : ByteArray)) ++ tb) ++ (⟨#[10]⟩ : ByteArray)).data.toList.length = (((((((⟨#[112, 97, 115, 115, 32]⟩ : ByteArray) ++ x.f0) ++ (⟨#[32]⟩ : ByteArray)) ++ ta) ++ (⟨#[32]⟩ : ByteArray)) ++ tb) ++ (⟨#[10]⟩ : ByteArray)).size := (by rw [Array.length_toList]; rfl); rw [hpre, List.length_append, e]; omega)
        clear hpre HPT HSZ z0 z1 z2 z3 z4 z5 HIA HIB
        go_loopg [39] x.f3.length (fun kq v_ w' => ∃ q : Nat, v_ = .int .i64 (q : Int) ∧ Aside0 (kq + q = x.f3.length) ∧ Aside0 (Below w.heap.size w w') ∧ Aside0 (Lib.IsBuilderF 52 5 w.heap.size g7 (Lib.byteCells (pre ++ textS (x.f3.take q))) w'))
        case atStart => exact ⟨0, rfl, ⟨rfl⟩, ⟨by repeat (first | exact HBx.out | apply pw_below_drewN)⟩, ⟨by rw [show textS (x.f3.take 0) = [] from rfl, List.append_nil]; first | exact HIx.out | exact ib_below HIx.out (pw_below_drewN (Below.refl _ _) _)⟩⟩
        case round =>
          clear HBx HIx
          obtain ⟨q, rfl, HKq, HB, HI⟩ := hrel
          cases gk with
          | zero =>
            have hq : q = x.f3.length := by have := HKq.out; omega
            subst hq
            have HI2 := Aside0.mk (show Lib.IsBuilderF 52 5 w.heap.size g7 (Lib.byteCells (textP (l0.take (i + 1)))) wr by rw [HSN.out]; have := HI.out; rwa [List.take_length] at this)
            have hwi : wrap64 ((i : Int) + 1) = ((i + 1 : Nat) : Int) := by have := HK.out; have := HMAX.out; unfold wrap64; omega
            clear HI HKq
            go_wp2
            go_roundg d
            case measure => omega
            case rel => exact ⟨i + 1, (by first | rfl | (rw [hwi]) | (simp [hwi]; done) | (simp; done)), ⟨by have := HK.out; omega⟩, ⟨by repeat (first | exact HB.out | apply pw_below_drewN)⟩, ⟨by first | exact HI2.out | exact ib_below HI2.out (pw_below_drewN (Below.refl _ _) _)⟩⟩
          | succ d2 =>
            have hi : q < x.f3.length := by have := HKq.out; omega
            have hj0 : (0 : Int) ≤ (q : Int) := by omega
            have hj1 : (q : Int) < (x.f3.length : Int) := by omega
            have hdj : decide ((q : Int) < (x.f3.length : Int)) = true := decide_eq_true hj1
            obtain ⟨ad3, e, hx0, hx1⟩ := at_T62 HR3.out (q : Int) hj0 hj1
            subst e
            replace hx0 := cellB HB.out hx0
            replace hx1 := cellB HB.out hx1
            simp only [Int.toNat_natCast] at hx0 hx1
            have hsn := textS_snoc hi
            have hpt := textS_part x.f3 (q + 1)
            have hlo := HRO.out (rd_T62 x.f3 (q : Int)) (by unfold rd_T62; simp [List.getD_eq_getElem?_getD, List.getElem?_eq_getElem hi])
            obtain ⟨y, hy⟩ : ∃ y, y = rd_T62 x.f3 (q : Int) := ⟨_, rfl⟩
            rw [← hy] at hsn hlo hx0 hx1
            have hlp := rate_parts hlo
            rw [hsn, List.length_append] at hpt
            have HIA := Aside0.mk (show strconv_Itoa.f y.f0 = some (itoaB y.f0) from if_pos hlp.1)
            have HIB := Aside0.mk (show strconv_Itoa.f y.f1 = some (itoaB y.f1) from if_pos hlp.2.1)
            have hls : (rateB y.f0 y.f1) = ((((⟨#[114, 97, 116, 101, 32]⟩ : ByteArray) ++ itoaB y.f0) ++ (⟨#[32]⟩ : ByteArray)) ++ itoaB y.f1) ++ (⟨#[10]⟩ : ByteArray) := rfl
            have hls2 : (rateB y.f0 y.f1).data.toList.length = (rateB y.f0 y.f1).size := by rw [Array.length_toList]; rfl
            rw [hls2] at hpt
            rw [hls] at hsn hpt
            obtain ⟨ta2, hta⟩ : ∃ ta, ta = itoaB y.f0 := ⟨_, rfl⟩
            obtain ⟨tb2, htb⟩ : ∃ tb, tb = itoaB y.f1 := ⟨_, rfl⟩
            have hs := hlp.2.2
            rw [← hta, ← htb] at hs hsn hpt
            rw [← hta] at HIA
            rw [← htb] at HIB
            have z0 : (9223372036854775807 < 5 + ta2.size ) = False := eq_false (by omega)
            have z1 : (9223372036854775807 < 5 + ta2.size + 1) = False := eq_false (by omega)
            have z2 : (9223372036854775807 < 5 + ta2.size + 1 + tb2.size) = False := eq_false (by omega)
            have z3 : (9223372036854775807 < 5 + ta2.size + 1 + tb2.size + 1) = False := eq_false (by omega)
            have HPT := Aside0.mk (show pre.length + (textS (x.f3.take q)).length + (((((⟨#[114, 97, 116, 101, 32]⟩ : ByteArray) ++ ta2) ++ (⟨#[32]⟩ : ByteArray)) ++ tb2) ++ (⟨#[10]⟩ : ByteArray)).size ≤ 1000000000 by have := HPL.out; omega)
            have HSQ := Aside0.mk hsn
            clear hsn hs hls hls2 hpt hlp hlo hy hta htb hi
            go_wp2_with (first | ((with_reducible refine gate_dst (N := 9) rfl ?_); refine box_event ?hg (N := 9) ?hd (cs := #[.int .i64 0, .int .i64 0]) (t := 62) ?hr ?_; (case hd => rfl); (case hg => rfl); (case hr => first | (go_simp; done) | (go_simp; rfl)); intro gs hg_ w8 hbox hb; have GB := Aside0.mk hg_; have BK := Aside0.mk hbox; have HW := Aside0.mk hb; have hy0 : w8.cell? ⟨gs, 0, none⟩ = some (.int .i64 0) := (blk_cell hbox 0).trans rfl; have hf0 := blk_frozen hbox 0; have hy1 : w8.cell? ⟨gs, 1, none⟩ = some (.int .i64 0) := (blk_cell hbox 1).trans rfl; have hf1 := blk_frozen hbox 1; clear hbox hb hg_))
            have n0_ : Aside0 (((w8.setCell ⟨gs, 0, none⟩ (.int .i64 y.f0)).setCell ⟨gs, 1, none⟩ (.int .i64 y.f1)).heap[gs]? = some (.cells #[.int .i64 y.f0, .int .i64 y.f1] 62 (0, 0))) := ⟨blk_set (blk_set BK.out 0 _) 1 _⟩
            have n1_ : Aside0 (Below wr.heap.size wr ((w8.setCell ⟨gs, 0, none⟩ (.int .i64 y.f0)).setCell ⟨gs, 1, none⟩ (.int .i64 y.f1))) := ⟨below_set (below_set HW.out (Nat.le_of_eq GB.out.symm)) (Nat.le_of_eq GB.out.symm)⟩
            clear BK HW GB hx0 hx1 hy0 hy1 hf0 hf1
            generalize ((w8.setCell ⟨gs, 0, none⟩ (.int .i64 y.f0)).setCell ⟨gs, 1, none⟩ (.int .i64 y.f1)) = w9 at n0_ n1_ ⊢
            have BK := n0_
            have HW := n1_
            clear n0_ n1_
            refine start_ (n := 11) (S := fun w' => w'.cell? ⟨gs, 0, none⟩ = some (.int .i64 y.f0) ∧ w'.cell? ⟨gs, 1, none⟩ = some (.int .i64 y.f1)) (ds := [10]) #[false, false, false, false, false, false, false, false, false, false, false] (by kernel_rfl) rfl rfl ⟨(blk_cell BK.out 0).trans rfl, (blk_cell BK.out 1).trans rfl⟩ (fun hHeld => ?_)
            refine tx_world (R := fun W2 => Below wr.heap.size wr W2 ∧ W2.heap[gs]? = some (.cells #[.int .i64 y.f0, .int .i64 y.f1] 62 (0, 0))) ⟨below_drew1 HW.out, blk_drew BK.out⟩ hHeld (fun W2 hR2 hHeld => ?_)
            have HW2 := Aside0.mk hR2.1
            have BK2 := Aside0.mk hR2.2
            clear hR2 HW BK
            refine pure_ (i := 0) (N := some 43) (v := ?_) (a' := ?_) #[true, false, false, false, false, false, false, false, false, false, false] rfl rfl (by kernel_rfl) (fun _ _ _ h => h) (Or.inl ⟨by rfl, ?_⟩) ?_ ?_
            rotate_left
            · intro w'
              go_simp
              with_reducible rfl
            rotate_left
            · simp only [Act.put, List.setIfInBounds_toArray, List.set_cons_zero, List.set_cons_succ, i64_w, i32_w]
              rfl
            refine take_ (i := 1) (N := some 44) (v := ?_) (a' := ?_) #[true, true, false, false, false, false, false, false, false, false, false] rfl rfl (by kernel_rfl) (fun _ _ _ h => h) (Or.inl ⟨by rfl, ?_⟩) hHeld ?_ ?_
            rotate_left
            · rintro w' ⟨s0, s1⟩
              go_simp
              with_reducible rfl
            rotate_left
            · simp only [Act.put, List.setIfInBounds_toArray, List.set_cons_zero, List.set_cons_succ, i64_w, i32_w]
              rfl
            refine pure_ (i := 5) (N := some 48) (v := ?_) (a' := ?_) #[true, true, false, false, false, true, false, false, false, false, false] rfl rfl (by kernel_rfl) (fun _ _ _ h => h) (Or.inl ⟨by rfl, ?_⟩) ?_ ?_
            rotate_left
            · intro w'
              go_simp
              with_reducible rfl
            rotate_left
            · simp only [Act.put, List.setIfInBounds_toArray, List.set_cons_zero, List.set_cons_succ, i64_w, i32_w]
              rfl
            refine take_ (i := 6) (N := some 49) (v := ?_) (a' := ?_) #[true, true, false, false, false, true, true, false, false, false, false] rfl rfl (by kernel_rfl) (fun _ _ _ h => h) (Or.inl ⟨by rfl, ?_⟩) hHeld ?_ ?_
            rotate_left
            · rintro w' ⟨s0, s1⟩
              go_simp
              with_reducible rfl
            rotate_left
            · simp only [Act.put, List.setIfInBounds_toArray, List.set_cons_zero, List.set_cons_succ, i64_w, i32_w]
              rfl
            refine one_ (i := 2) (N := some 45) #[true, true, true, false, false, true, true, false, false, false, false] rfl rfl (by kernel_rfl) (by decide) (fun K hK => ?_)
            refine goes_ Tryd.func26 (by kernel_rfl) rfl #[.int .i64 y.f0] (by rfl) rfl rfl (by (try simp only [List.map_toArray, List.map_cons, List.map_nil]); first | done | rfl) ?_
            with_reducible refine (strconv_Itoa.calls y.f0 ta2 _ (HV.out.below (below_step HB.out HW2.out)) HIA.out).mono ?_
            rintro e W3 ⟨rfl, hb⟩
            refine ⟨_, rfl, ?_⟩
            have HW3 := Aside0.mk (below_step HW2.out hb)
            have BK3 := Aside0.mk (blk_below BK2.out hb)
            clear hb HW2 BK2
            refine hK.out _ _ ⟨(blk_cell BK3.out 0).trans rfl, (blk_cell BK3.out 1).trans rfl⟩ (fun hHeld => ?_)
            clear hK K
            refine norm_ (a' := ?_) ?_ ?_
            rotate_left
            · show Act.put _ (some 45) _ = _
              simp only [Act.put, List.setIfInBounds_toArray, List.set_cons_zero, List.set_cons_succ, i64_w, i32_w]
              rfl
            refine pure_ (i := 3) (N := some 46) (v := ?_) (a' := ?_) #[true, true, true, true, false, true, true, false, false, false, false] rfl rfl (by kernel_rfl) (fun _ _ _ h => h) (Or.inl ⟨by rfl, ?_⟩) ?_ ?_
            rotate_left
            · intro w'
              go_simp
              with_reducible rfl
            rotate_left
            · simp only [Act.put, List.setIfInBounds_toArray, List.set_cons_zero, List.set_cons_succ, i64_w, i32_w]
              rfl
            refine pure_ (i := 4) (N := some 47) (v := ?_) (a' := ?_) #[true, true, true, true, true, true, true, false, false, false, false] rfl rfl (by kernel_rfl) (fun _ _ _ h => h) (Or.inl ⟨by rfl, ?_⟩) ?_ ?_
            rotate_left
            · intro w'
              go_simp
              with_reducible rfl
            rotate_left
            · simp only [Act.put, List.setIfInBounds_toArray, List.set_cons_zero, List.set_cons_succ, i64_w, i32_w]
              rfl
            refine one_ (i := 7) (N := some 50) #[true, true, true, true, true, true, true, true, false, false, false] rfl rfl (by kernel_rfl) (by decide) (fun K hK => ?_)
            refine goes_ Tryd.func26 (by kernel_rfl) rfl #[.int .i64 y.f1] (by rfl) rfl rfl (by (try simp only [List.map_toArray, List.map_cons, List.map_nil]); first | done | rfl) ?_
            with_reducible refine (strconv_Itoa.calls y.f1 tb2 _ (HV.out.below (below_step HB.out HW3.out)) HIB.out).mono ?_
            rintro e W4 ⟨rfl, hb⟩
            refine ⟨_, rfl, ?_⟩
            have HW4 := Aside0.mk (below_step HW3.out hb)
            have BK4 := Aside0.mk (blk_below BK3.out hb)
            clear hb HW3 BK3
            refine hK.out _ _ ⟨(blk_cell BK4.out 0).trans rfl, (blk_cell BK4.out 1).trans rfl⟩ (fun hHeld => ?_)
            clear hK K
            refine norm_ (a' := ?_) ?_ ?_
            rotate_left
            · show Act.put _ (some 50) _ = _
              simp only [Act.put, List.setIfInBounds_toArray, List.set_cons_zero, List.set_cons_succ, i64_w, i32_w]
              rfl
            refine pure_ (i := 8) (N := some 51) (v := ?_) (a' := ?_) #[true, true, true, true, true, true, true, true, true, false, false] rfl rfl (by kernel_rfl) (fun _ _ _ h => h) (Or.inl ⟨by rfl, ?_⟩) ?_ ?_
            rotate_left
            · intro w'
              go_simp
              with_reducible rfl
            rotate_left
            · simp only [Act.put, List.setIfInBounds_toArray, List.set_cons_zero, List.set_cons_succ, i64_w, i32_w]
              rfl
            refine pure_ (i := 9) (N := some 52) (v := ?_) (a' := ?_) #[true, true, true, true, true, true, true, true, true, true, false] rfl rfl (by kernel_rfl) (fun _ _ _ h => h) (Or.inl ⟨by rfl, ?_⟩) ?_ ?_
            rotate_left
            · intro w'
              go_simp
              with_reducible rfl
            rotate_left
            · simp only [Act.put, List.setIfInBounds_toArray, List.set_cons_zero, List.set_cons_succ, i64_w, i32_w]
              rfl
            refine last_ (i := 10) (N := some 53) #[true, true, true, true, true, true, true, true, true, true, true] rfl rfl (by kernel_rfl) (by decide) (fun K hK => ?_)
            refine goes_ Tryd.func25 (by kernel_rfl) rfl #[.pointer (some ⟨g7, 0, none⟩), .string (((((⟨#[114, 97, 116, 101, 32]⟩ : ByteArray) ++ ta2) ++ (⟨#[32]⟩ : ByteArray)) ++ tb2) ++ (⟨#[10]⟩ : ByteArray))] (by rfl) rfl rfl (by (try simp only [List.map_toArray, List.map_cons, List.map_nil]); first | done | rfl) ?_
            have HLEN : (Lib.byteCells (pre ++ textS (x.f3.take q))).length + (((((⟨#[114, 97, 116, 101, 32]⟩ : ByteArray) ++ ta2) ++ (⟨#[32]⟩ : ByteArray)) ++ tb2) ++ (⟨#[10]⟩ : ByteArray)).size ≤ 140737488355328 := by rw [Lib.byteCells_length]; have h1 := HPT.out; rw [List.length_append]; omega
            have HIW := ib_below HI.out HW4.out
            refine (bld_write w.heap.size g7 _ (((((⟨#[114, 97, 116, 101, 32]⟩ : ByteArray) ++ ta2) ++ (⟨#[32]⟩ : ByteArray)) ++ tb2) ++ (⟨#[10]⟩ : ByteArray)) _ HIW HLEN (below_step HB.out HW4.out).size).mono ?_
            rintro e W9 ⟨rfl, hat, hbw, hot⟩
            refine ⟨_, rfl, ?_⟩
            rw [str_bytes] at hat
            have HI2 := Aside0.mk (show Lib.IsBuilderF 52 5 w.heap.size g7 (Lib.byteCells (pre ++ textS (x.f3.take (q + 1)))) W9 from by rw [HSQ.out, ← List.append_assoc]; exact .inr hat)
            have HB2 := Aside0.mk (show Below w.heap.size w W9 from (below_step HB.out HW4.out).trans hbw)
            clear hat hbw hot HIW HW4 BK4 HLEN
            refine hK.out _ _ ?_
            clear hK K
            refine norm_ (a' := ?_) ?_ ?_
            rotate_left
            · show Act.put _ (some 53) _ = _
              simp only [Act.put, List.setIfInBounds_toArray, List.set_cons_zero, List.set_cons_succ, i64_w, i32_w]
              rfl
            refine done_ (by kernel_rfl) ?_
            clear hHeld
            have hwq : wrap64 ((q : Int) + 1) = ((q + 1 : Nat) : Int) := by have := HKq.out; have := HMS.out; unfold wrap64; omega
            go_wp2
            go_roundg d2
            case measure => omega
            case rel => exact ⟨q + 1, (by first | rfl | (rw [hwq]) | (simp [hwq]; done) | (simp; done)), ⟨by have := HKq.out; omega⟩, ⟨by repeat (first | exact HB2.out | apply pw_below_drewN)⟩, ⟨by first | exact HI2.out | exact ib_below HI2.out (pw_below_drewN (Below.refl _ _) _)⟩⟩
  · rw [if_neg h0] at h
    have c4 : (c != 0) = true := bne_iff_ne.mpr h0
    have c5 : (c == 0) = false := beq_eq_false_iff_ne.mpr h0
    clear h0
    simp only [Option.some.injEq, Prod.mk.injEq] at h
    obtain ⟨rfl, rfl⟩ := h
    go_enter Tryd.func7, Tryd.ntmps7
    go_wp2_with (first | (go_at_call 24; go_loud (with_reducible refine (contact_CheckPasses.calls k _ _ l0 _ _ HR0.out HC0.out A1_.out).mono ?_); rintro e w5 ⟨rfl, hb5⟩; have HB5 := Aside0.mk hb5; clear hb5))
    refine bodyPost_ret (results_list (rs := [.tmp 2, .tmp 3]) rfl (by simp) (.tmp (.tmp .nil))) rfl ?_
    exact ⟨rfl, by repeat (first | exact HB5.out | apply pw_below_drewN)⟩
def strings_Split.f (a0 a1 : ByteArray) : Option (List ByteArray) := if a0.size < 4294967281 ∧ 1 ≤ a1.size then some (Lib.splitB a1 0 (Lib.countB a0 a1) a0) else none
theorem strings_Split.calls (a0 a1 : ByteArray) (r : List ByteArray) (w : World) (hV : VarsOK w) (h : strings_Split.f a0 a1 = some r) :
 Calls Tryd.prog 35 #[.string a0, .string a1] w fun e w' => ∃ v0_ : Value, e = .returned (v0_) ∧ Kd.R Kd.string 9 w' w.heap.size (fun _ => True) v0_ r ∧ Below w.heap.size w w' := by
 unfold strings_Split.f at h
 obtain ⟨⟨hs, h1⟩, h⟩ := guardT h
 obtain rfl := Option.some.inj h
 have hl := Lib.splitB_all a1 h1 0 _ a0 rfl
 have hc := Lib.countB_le a1 h1 _ a0 (Nat.le_refl _)
 refine (split_vars a0 a1 w hV hs h1).mono ?_
 rintro e w' ⟨rfl, rfl⟩
 refine ⟨_, rfl, Kd.R_of_own ⟨?_, .inr ⟨_, _, _, ?_, Nat.le_refl _, heap_alloc_new w _, Nat.le_refl _, ?_, ?_, ?_⟩⟩ (fun _ _ => trivial), below_alloc (Below.refl _ _) _⟩
 · rw [Nat.mul_one]; simp [encs]
 · rw [hl]
 · have : maxLen = 9223372036854775807 := rfl
   omega
 · rw [List.size_toArray, List.length_map, Nat.mul_one]
 · rw [Nat.mul_one, List.toList_toArray]
   exact List.take_of_length_le (by rw [List.length_map]; exact Nat.le_refl _)
def strings_IndexByte.f (a0 : ByteArray) (a1 : Int) : Option Int := some (Lib.indexByte a0.data.toList a1.toNat.toUInt8)
theorem strings_IndexByte.calls (a0 : ByteArray) (a1 : Int) (r : Int) (w : World) (h : strings_IndexByte.f a0 a1 = some r) :
 Calls Tryd.prog 65 #[.string a0, .int .u8 a1] w fun e w' => e = .returned (.int .i64 r) ∧ Drawn0 w w' := by
 obtain rfl := Option.some.inj h
 refine (Tryd.strings_IndexByte a0 a1 w).mono ?_
 rintro e w' ⟨rfl, rfl⟩
 exact ⟨rfl, Drawn0.refl _⟩
mutual
def kit_Digits.j0 : Nat → ByteArray → Bool → Option (Int × Bool)
  | 0, _, _ => none
  | k + 1, x0, x25 => if x25 = true then (some (0, false)) else (kit_Digits.l0 k x0 0 (x0.size : Int) 0)
def kit_Digits.l0 : Nat → ByteArray → Int → Int → Int → Option (Int × Bool)
  | 0, _, _, _, _ => none
  | k + 1, x0, x6, x27, x28 => if x28 < x27 then (if 0 ≤ x28 then (if x28 < (x0.size : Int) then (if (bt x0 x28) < 48 then (some (0, false)) else (if (bt x0 x28) > 57 then (some (0, false)) else (kit_Digits.l0 k x0 (wrap64 ((wrap64 (x6 * 10)) + (((bt x0 x28) - 48) % 256))) x27 (wrap64 (x28 + 1))))) else (none)) else (none)) else (some (x6, true))
end
def kit_Digits.f (k : Nat) (a0 : ByteArray) (a1 : Int) : Option (Int × Bool) := if a0.toList = ([] : List UInt8) then (kit_Digits.j0 k a0 true) else (if (a0.size : Int) > a1 then (kit_Digits.j0 k a0 true) else (if 0 < (a0.size : Int) then (if (bt a0 0) = 48 then (kit_Digits.j0 k a0 (decide ((a0.size : Int) > 1))) else (kit_Digits.j0 k a0 false)) else (none)))
theorem d66a {p : Prop} (h : p := by repeat (first | exact Drawn0.refl _ | apply Drawn0.step)) : p := h
theorem d66b {p : Prop} (h : p := by first | (with_reducible assumption) | assumption) : p := h
theorem d66c {p : Prop} (h : p := by first | rfl | (simp; done) | (simp [*]; done)) : p := h
set_option maxHeartbeats 8000000 in
set_option maxRecDepth 100000 in
theorem kit_Digits.calls (k : Nat) (a0 : ByteArray) (a1 : Int) (r1 : Int) (r2 : Bool) (w : World) (h : kit_Digits.f k a0 a1 = some (r1, r2)) :
 Calls Tryd.prog 66 #[.string a0, .int .i64 a1] w fun e w' => e = .returned (.tuple #[.int .i64 r1, .bool r2]) ∧ Drawn0 w w' := by
 have H : (if a0.toList = ([] : List UInt8) then (kit_Digits.j0 k a0 true) else (if (a0.size : Int) > a1 then (kit_Digits.j0 k a0 true) else (if 0 < (a0.size : Int) then (if (bt a0 0) = 48 then (kit_Digits.j0 k a0 (decide ((a0.size : Int) > 1))) else (kit_Digits.j0 k a0 false)) else (none)))) = some (r1, r2) := h
 clear h
 have HC3 := Aside0.mk H
 clear H
 go_enter Tryd.func66, Tryd.ntmps66
 go_upto_region 1 with (fail)
 go_cut [25] (fun v25 wc => ∃ (kq : Nat) (x25_2 : Bool), v25 = .bool x25_2 ∧ Aside0 (kit_Digits.j0 kq a0 x25_2 = some (r1, r2)) ∧ Aside0 (kq ≤ k) ∧ Drawn0 w wc)
 case first =>
  have H := HC3.out
  clear HC3
  by_cases c4 : a0.toList = ([] : List UInt8)
  · rw [if_pos c4] at H
    have c4b0 : (a0.toList == ([] : List UInt8)) = true := beq_iff_eq.mpr c4
    have c4b1 : (a0.toList != ([] : List UInt8)) = false := bne_eq_false_iff_eq.mpr c4
    clear c4
    (first | rw [c4b0] | (simp only [i64_w, i32_w]; rw [c4b0]) | skip)
    have H' := Aside0.mk H
    clear H
    go_wp2
    go_meet
    case rel => exact ⟨_, (true), d66c, H', ⟨by first | omega | exact Nat.le_refl _⟩, d66a⟩
  · rw [if_neg c4] at H
    have c4b0 : (a0.toList == ([] : List UInt8)) = false := beq_eq_false_iff_ne.mpr c4
    have c4b1 : (a0.toList != ([] : List UInt8)) = true := bne_iff_ne.mpr c4
    (first | rw [c4b0] | (simp only [i64_w, i32_w]; rw [c4b0]) | skip)
    by_cases c5 : (a0.size : Int) > a1
    · rw [if_pos c5] at H
      have c5b0 : decide (a1 < (a0.size : Int)) = true := decide_eq_true c5
      clear c5
      have H' := Aside0.mk H
      clear H
      go_wp2
      go_meet
      case rel => exact ⟨_, (true), d66c, H', ⟨by first | omega | exact Nat.le_refl _⟩, d66a⟩
    · rw [if_neg c5] at H
      have c5b0 : decide (a1 < (a0.size : Int)) = false := decide_eq_false c5
      clear c5
      replace H := guardT H; obtain ⟨c6, H⟩ := H
      have c6b0 : decide (0 < (a0.size : Int)) = true := decide_eq_true c6
      have c6b1 : decide (0 < a0.size) = true := decide_eq_true (by omega)
      clear c6
      by_cases c8 : (bt a0 0) = 48
      · rw [if_pos c8] at H
        have c8b0 : ((bt a0 0) == 48) = true := beq_iff_eq.mpr c8
        have c8b1 : ((bt a0 0) != 48) = false := bne_eq_false_iff_eq.mpr c8
        clear c8
        have H' := Aside0.mk H
        clear H
        have p7 : 0 ≤ (0 : Int) := (by omega)
        have q7 : 0 < a0.size := (by have : (0 : Int) < (a0.size : Int) := of_decide_eq_true d66b; omega)
        have hx7 : ∀ h : 0 < a0.size, ((a0[0]'h).toNat : Int) = bt a0 0 := bt_at a0 0
        clear p7
        have qi7 : (0 < (a0.size : Int)) = True := eq_true (of_decide_eq_true d66b)
        replace q7 := eq_true q7
        go_wp2
        go_meet
        case rel => exact ⟨_, (decide ((a0.size : Int) > 1)), d66c, H', ⟨by first | omega | exact Nat.le_refl _⟩, d66a⟩
      · rw [if_neg c8] at H
        have c8b0 : ((bt a0 0) == 48) = false := beq_eq_false_iff_ne.mpr c8
        have c8b1 : ((bt a0 0) != 48) = true := bne_iff_ne.mpr c8
        have H' := Aside0.mk H
        clear H
        have p7 : 0 ≤ (0 : Int) := (by omega)
        have q7 : 0 < a0.size := (by have : (0 : Int) < (a0.size : Int) := of_decide_eq_true d66b; omega)
        have hx7 : ∀ h : 0 < a0.size, ((a0[0]'h).toNat : Int) = bt a0 0 := bt_at a0 0
        clear p7
        have qi7 : (0 < (a0.size : Int)) = True := eq_true (of_decide_eq_true d66b)
        replace q7 := eq_true q7
        go_wp2
        go_meet
        case rel => exact ⟨_, (false), d66c, H', ⟨by first | omega | exact Nat.le_refl _⟩, d66a⟩
 case rest =>
  clear HC3
  obtain ⟨kq, x25_2, rfl, HA, HJ2, ⟨mc2, rfl⟩⟩ := hcut
  cases kq with
  | zero => exact absurd HA.out (by simp [kit_Digits.j0])
  | succ kj2 =>
   have H := HA.out
   clear HA
   simp only [kit_Digits.j0] at H
   by_cases c9 : x25_2 = true
   · subst c9
     replace H := iteT H
     simp only [Option.some.injEq, Prod.mk.injEq] at H
     obtain ⟨rfl, rfl⟩ := H
     go_wp2
     go_ret2
     exact ⟨d66c, d66a⟩
   · replace c9 := Bool.eq_false_iff.mpr c9
     subst c9
     replace H := iteF H
     have H' := Aside0.mk H
     clear H
     go_wp2
     go_loopg [6, 28] kj2 (fun kq v6 v28 w' => ∃ (x6_2 : Int) (x28_2 : Int), v6 = .int .i64 x6_2 ∧ v28 = .int .i64 x28_2 ∧ Aside0 (kit_Digits.l0 kq a0 x6_2 (a0.size : Int) x28_2 = some (r1, r2)) ∧ Aside0 (kq ≤ kj2) ∧ Drawn0 w w')
     case atStart => exact ⟨(0), (0), d66c, d66c, H', ⟨Nat.le_refl _⟩, d66a⟩
     case round =>
      clear H'
      obtain ⟨x6_2, x28_2, rfl, rfl, HA, HK2, ⟨m2, rfl⟩⟩ := hrel
      cases gk with
      | zero => exact absurd HA.out (by simp [kit_Digits.l0])
      | succ k2 =>
       have H := HA.out
       clear HA
       simp only [kit_Digits.l0] at H
       by_cases c10 : x28_2 < (a0.size : Int)
       · rw [if_pos c10] at H
         have c10b0 : decide (x28_2 < (a0.size : Int)) = true := decide_eq_true c10
         clear c10
         replace H := guardT H; obtain ⟨c11, H⟩ := H
         have c11b0 : decide (0 ≤ x28_2) = true := decide_eq_true c11
         clear c11
         replace H := guardT H; obtain ⟨c12, H⟩ := H
         have c12b0 : decide (x28_2 < (a0.size : Int)) = true := decide_eq_true c12
         clear c12
         by_cases c14 : (bt a0 x28_2) < 48
         · rw [if_pos c14] at H
           have c14b0 : decide ((bt a0 x28_2) < 48) = true := decide_eq_true c14
           clear c14
           simp only [Option.some.injEq, Prod.mk.injEq] at H
           obtain ⟨rfl, rfl⟩ := H
           have p13 : 0 ≤ (x28_2 : Int) := of_decide_eq_true d66b
           have q13 : x28_2 < (a0.size : Int) := of_decide_eq_true d66b
           have hx13 := bt_at a0 x28_2
           replace p13 := eq_true p13
           replace q13 := eq_true q13
           go_wp2
           go_ret2
           exact ⟨d66c, d66a⟩
         · rw [if_neg c14] at H
           have c14b0 : decide ((bt a0 x28_2) < 48) = false := decide_eq_false c14
           clear c14
           by_cases c16 : (bt a0 x28_2) > 57
           · rw [if_pos c16] at H
             have c16b0 : decide (57 < (bt a0 x28_2)) = true := decide_eq_true c16
             clear c16
             simp only [Option.some.injEq, Prod.mk.injEq] at H
             obtain ⟨rfl, rfl⟩ := H
             have p13 : 0 ≤ (x28_2 : Int) := of_decide_eq_true d66b
             have q13 : x28_2 < (a0.size : Int) := of_decide_eq_true d66b
             have hx13 := bt_at a0 x28_2
             replace p13 := eq_true p13
             replace q13 := eq_true q13
             have p15 : 0 ≤ (x28_2 : Int) := of_decide_eq_true d66b
             have q15 : x28_2 < (a0.size : Int) := of_decide_eq_true d66b
             have hx15 := bt_at a0 x28_2
             replace p15 := eq_true p15
             replace q15 := eq_true q15
             go_wp2
             go_ret2
             exact ⟨d66c, d66a⟩
           · rw [if_neg c16] at H
             have c16b0 : decide (57 < (bt a0 x28_2)) = false := decide_eq_false c16
             clear c16
             have H' := Aside0.mk H
             clear H
             have p13 : 0 ≤ (x28_2 : Int) := of_decide_eq_true d66b
             have q13 : x28_2 < (a0.size : Int) := of_decide_eq_true d66b
             have hx13 := bt_at a0 x28_2
             replace p13 := eq_true p13
             replace q13 := eq_true q13
             have p15 : 0 ≤ (x28_2 : Int) := of_decide_eq_true d66b
             have q15 : x28_2 < (a0.size : Int) := of_decide_eq_true d66b
             have hx15 := bt_at a0 x28_2
             replace p15 := eq_true p15
             replace q15 := eq_true q15
             have p17 : 0 ≤ (x28_2 : Int) := of_decide_eq_true d66b
             have q17 : x28_2 < (a0.size : Int) := of_decide_eq_true d66b
             have hx17 := bt_at a0 x28_2
             replace p17 := eq_true p17
             replace q17 := eq_true q17
             go_wp2
             go_roundg k2
             case measure => have := HJ2.out; have := HK2.out; omega
             case rel => exact ⟨(wrap64 ((wrap64 (x6_2 * 10)) + (((bt a0 x28_2) - 48) % 256))), (wrap64 (x28_2 + 1)), d66c, d66c, H', ⟨by have := HJ2.out; have := HK2.out; omega⟩, d66a⟩
       · rw [if_neg c10] at H
         have c10b0 : decide (x28_2 < (a0.size : Int)) = false := decide_eq_false c10
         clear c10
         simp only [Option.some.injEq, Prod.mk.injEq] at H
         obtain ⟨rfl, rfl⟩ := H
         go_wp2
         go_ret2
         exact ⟨d66c, d66a⟩
def contact_isWord.l0 : Nat → ByteArray → Int → Int → Option (Bool)
  | 0, _, _, _ => none
  | k + 1, x0, x5, x6 => if x6 < x5 then (if 0 ≤ x6 then (if x6 < (x0.size : Int) then (if (bt x0 x6) < 33 then (some false) else (if (bt x0 x6) > 126 then (some false) else (contact_isWord.l0 k x0 x5 (wrap64 (x6 + 1))))) else (none)) else (none)) else (some (x0.toList != ([] : List UInt8)))
def contact_isWord.f (k : Nat) (a0 : ByteArray) : Option (Bool) := contact_isWord.l0 k a0 (a0.size : Int) 0
theorem d67a {p : Prop} (h : p := by first | rfl | (simp; done) | (simp [*]; done) | (simp; cases a0.toList <;> rfl)) : p := h
theorem d67b {p : Prop} (h : p := by repeat (first | exact Drawn0.refl _ | apply Drawn0.step)) : p := h
theorem d67c {p : Prop} (h : p := by first | (with_reducible assumption) | assumption) : p := h
set_option maxHeartbeats 8000000 in
set_option maxRecDepth 100000 in
theorem contact_isWord.calls (k : Nat) (a0 : ByteArray) (r : Bool) (w : World) (h : contact_isWord.f k a0 = some r) :
 Calls Tryd.prog 67 #[.string a0] w fun e w' => e = .returned (.bool r) ∧ Drawn0 w w' := by
 have H : (contact_isWord.l0 k a0 (a0.size : Int) 0) = some r := h
 clear h
 have H' := Aside0.mk H
 clear H
 go_enter Tryd.func67, Tryd.ntmps67
 go_wp2
 go_loopg [6] k (fun kq v6 w' => ∃ (x6_1 : Int), v6 = .int .i64 x6_1 ∧ Aside0 (contact_isWord.l0 kq a0 (a0.size : Int) x6_1 = some r) ∧ Aside0 (kq ≤ k) ∧ Drawn0 w w')
 case atStart => exact ⟨(0), (by first | rfl | (simp; done) | (simp [*]; done)), H', ⟨Nat.le_refl _⟩, d67b⟩
 case round =>
  clear H'
  obtain ⟨x6_1, rfl, HA, HK1, ⟨m1, rfl⟩⟩ := hrel
  cases gk with
  | zero => exact absurd HA.out (by simp [contact_isWord.l0])
  | succ k1 =>
   have H := HA.out
   clear HA
   simp only [contact_isWord.l0] at H
   by_cases c2 : x6_1 < (a0.size : Int)
   · rw [if_pos c2] at H
     have c2b0 : decide (x6_1 < (a0.size : Int)) = true := decide_eq_true c2
     clear c2
     replace H := guardT H; obtain ⟨c3, H⟩ := H
     have c3b0 : decide (0 ≤ x6_1) = true := decide_eq_true c3
     clear c3
     replace H := guardT H; obtain ⟨c4, H⟩ := H
     have c4b0 : decide (x6_1 < (a0.size : Int)) = true := decide_eq_true c4
     clear c4
     by_cases c6 : (bt a0 x6_1) < 33
     · rw [if_pos c6] at H
       have c6b0 : decide ((bt a0 x6_1) < 33) = true := decide_eq_true c6
       clear c6
       obtain rfl := Option.some.inj H
       have p5 : 0 ≤ (x6_1 : Int) := of_decide_eq_true d67c
       have q5 : x6_1 < (a0.size : Int) := of_decide_eq_true d67c
       have hx5 := bt_at a0 x6_1
       replace p5 := eq_true p5
       replace q5 := eq_true q5
       go_wp2
       go_ret
       exact ⟨d67a, d67b⟩
     · rw [if_neg c6] at H
       have c6b0 : decide ((bt a0 x6_1) < 33) = false := decide_eq_false c6
       clear c6
       by_cases c8 : (bt a0 x6_1) > 126
       · rw [if_pos c8] at H
         have c8b0 : decide (126 < (bt a0 x6_1)) = true := decide_eq_true c8
         clear c8
         obtain rfl := Option.some.inj H
         have p5 : 0 ≤ (x6_1 : Int) := of_decide_eq_true d67c
         have q5 : x6_1 < (a0.size : Int) := of_decide_eq_true d67c
         have hx5 := bt_at a0 x6_1
         replace p5 := eq_true p5
         replace q5 := eq_true q5
         have p7 : 0 ≤ (x6_1 : Int) := of_decide_eq_true d67c
         have q7 : x6_1 < (a0.size : Int) := of_decide_eq_true d67c
         have hx7 := bt_at a0 x6_1
         replace p7 := eq_true p7
         replace q7 := eq_true q7
         go_wp2
         go_ret
         exact ⟨d67a, d67b⟩
       · rw [if_neg c8] at H
         have c8b0 : decide (126 < (bt a0 x6_1)) = false := decide_eq_false c8
         clear c8
         have H' := Aside0.mk H
         clear H
         have p5 : 0 ≤ (x6_1 : Int) := of_decide_eq_true d67c
         have q5 : x6_1 < (a0.size : Int) := of_decide_eq_true d67c
         have hx5 := bt_at a0 x6_1
         replace p5 := eq_true p5
         replace q5 := eq_true q5
         have p7 : 0 ≤ (x6_1 : Int) := of_decide_eq_true d67c
         have q7 : x6_1 < (a0.size : Int) := of_decide_eq_true d67c
         have hx7 := bt_at a0 x6_1
         replace p7 := eq_true p7
         replace q7 := eq_true q7
         go_wp2
         go_roundg k1
         case measure => have := HK1.out; omega
         case rel => exact ⟨(wrap64 (x6_1 + 1)), (by first | rfl | (simp; done) | (simp [*]; done)), H', ⟨by have := HK1.out; omega⟩, d67b⟩
   · rw [if_neg c2] at H
     have c2b0 : decide (x6_1 < (a0.size : Int)) = false := decide_eq_false c2
     clear c2
     obtain rfl := Option.some.inj H
     go_wp2
     go_ret
     exact ⟨d67a, d67b⟩
end Go.Proofs.YtbngmblgkkdhpaaDoor.Q
