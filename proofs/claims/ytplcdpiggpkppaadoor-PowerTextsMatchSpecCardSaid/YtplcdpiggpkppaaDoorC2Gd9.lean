-- Made by wip/tools/claimp.py of this session's texts; Lean checks it.
import Derived.Test.YtplcdpiggpkppaaDoorC2Q0
import Derived.Test.YtplcdpiggpkppaaDoorC2Gd3
import Derived.Test.YtplcdpiggpkppaaDoorC2Gd8
namespace Go.Proofs.YtplcdpiggpkppaaDoor.Q
open Go.RowKit Go.Proofs.YtplcdpiggpkppaaDoorW.PrintWords Go.Proofs.YtplcdpiggpkppaaDoorW.PrintLast Go.Proofs.YtplcdpiggpkppaaDoorW.PrintMore
attribute [local go_sem] max2_int min2_int max_two min_two max_three min_three max_four min_four
open Go.Proofs.YtplcdpiggpkppaaDoor.Base
attribute [local go_sem high] str_leq str_gtr str_geq
set_option linter.unusedVariables false
set_option linter.unusedSimpArgs false
def itoaB (n : Int) : ByteArray := ⟨(Lib.itoa n).toArray⟩
def lineB (h s : ByteArray) (a b : Int) : ByteArray := (((((h ++ s) ++ (⟨#[32]⟩ : ByteArray)) ++ itoaB a) ++ (⟨#[32]⟩ : ByteArray)) ++ itoaB b) ++ (⟨#[10]⟩ : ByteArray)
def loadH : ByteArray := ⟨#[108, 111, 97, 100, 32]⟩
def useH : ByteArray := ⟨#[117, 115, 101, 32]⟩
def textL (l : List S32) : List UInt8 := l.flatMap fun x => (lineB loadH x.f0 x.f1 x.f2).data.toList
def textU (l : List S35) : List UInt8 := l.flatMap fun x => (lineB useH x.f0 x.f1 x.f2).data.toList
def lineOK (h s : ByteArray) (a b : Int) : Bool := decide (-9223372036854775808 ≤ a ∧ a ≤ 9223372036854775807) && decide (-9223372036854775808 ≤ b ∧ b ≤ 9223372036854775807) && decide ((lineB h s a b).size ≤ 100000)
def textOK (l : List S32) (u : List S35) : Bool := (l.all fun x => lineOK loadH x.f0 x.f1 x.f2) && (u.all fun x => lineOK useH x.f0 x.f1 x.f2) && decide ((textL l ++ textU u).length ≤ 1000000000)
def power_Text.f (k : Nat) (l0 : List S32) (l1 : List S35) : Option (ByteArray × Int) :=
  (power_CheckUses.f k l0 l1).bind fun c => if c = 0 then (if textOK l0 l1 = true then (if (textL l0 ++ textU l1).length > 50000 then some (⟨#[]⟩, 2) else some (⟨(textL l0 ++ textU l1).toArray⟩, 0)) else none) else some (⟨#[]⟩, c)
theorem textL_snoc {l : List S32} {i : Nat} (h : i < l.length) : textL (l.take (i + 1)) = textL (l.take i) ++ (lineB loadH (rd_T32 l (i : Int)).f0 (rd_T32 l (i : Int)).f1 (rd_T32 l (i : Int)).f2).data.toList := by
  rw [List.take_succ_eq_append_getElem h]
  unfold textL rd_T32
  rw [List.flatMap_append]
  congr 1
  simp only [List.flatMap_cons, List.flatMap_nil, List.append_nil, Int.toNat_natCast, List.getD_eq_getElem?_getD, List.getElem?_eq_getElem h, Option.getD_some]
theorem textU_snoc {l : List S35} {i : Nat} (h : i < l.length) : textU (l.take (i + 1)) = textU (l.take i) ++ (lineB useH (rd_T35 l (i : Int)).f0 (rd_T35 l (i : Int)).f1 (rd_T35 l (i : Int)).f2).data.toList := by
  rw [List.take_succ_eq_append_getElem h]
  unfold textU rd_T35
  rw [List.flatMap_append]
  congr 1
  simp only [List.flatMap_cons, List.flatMap_nil, List.append_nil, Int.toNat_natCast, List.getD_eq_getElem?_getD, List.getElem?_eq_getElem h, Option.getD_some]
theorem textL_part (l : List S32) (i : Nat) : (textL (l.take i)).length ≤ (textL l).length := by
  have := congrArg List.length (congrArg textL (List.take_append_drop i l))
  unfold textL at this ⊢
  rw [List.flatMap_append, List.length_append] at this
  omega
theorem textU_part (l : List S35) (i : Nat) : (textU (l.take i)).length ≤ (textU l).length := by
  have := congrArg List.length (congrArg textU (List.take_append_drop i l))
  unfold textU at this ⊢
  rw [List.flatMap_append, List.length_append] at this
  omega
theorem line_size (h s ta tb : ByteArray) : ((((((h ++ s) ++ (⟨#[32]⟩ : ByteArray)) ++ ta) ++ (⟨#[32]⟩ : ByteArray)) ++ tb) ++ (⟨#[10]⟩ : ByteArray)).size = h.size + s.size + 1 + ta.size + 1 + tb.size + 1 := by
  simp only [ByteArray.size_append]
  rfl
theorem line_parts {h s : ByteArray} {a b : Int} (ok : lineOK h s a b = true) : (-9223372036854775808 ≤ a ∧ a ≤ 9223372036854775807) ∧ (-9223372036854775808 ≤ b ∧ b ≤ 9223372036854775807) ∧ h.size + s.size + 1 + (itoaB a).size + 1 + (itoaB b).size + 1 ≤ 100000 := by
  unfold lineOK at ok
  simp only [Bool.and_eq_true, decide_eq_true_eq] at ok
  refine ⟨ok.1.1, ok.1.2, ?_⟩
  have := ok.2
  unfold lineB at this
  rw [line_size] at this
  exact this
theorem lineB_pos (h s : ByteArray) (a b : Int) : 1 ≤ (lineB h s a b).data.toList.length := by
  have e : (lineB h s a b).data.toList.length = (lineB h s a b).size := by rw [Array.length_toList]; rfl
  unfold lineB at e ⊢
  rw [line_size] at e
  omega
theorem line_count_L : ∀ l : List S32, l.length ≤ (textL l).length
  | [] => Nat.le_refl _
  | x :: l => by
    have h := line_count_L l
    unfold textL at h ⊢
    rw [List.flatMap_cons, List.length_append, List.length_cons]
    have := lineB_pos loadH x.f0 x.f1 x.f2
    omega
theorem line_count_U : ∀ l : List S35, l.length ≤ (textU l).length
  | [] => Nat.le_refl _
  | x :: l => by
    have h := line_count_U l
    unfold textU at h ⊢
    rw [List.flatMap_cons, List.length_append, List.length_cons]
    have := lineB_pos useH x.f0 x.f1 x.f2
    omega
theorem ib_below {T e B b : Nat} {bs : List Value} {W W2 : World} (h : Lib.IsBuilder T e B b bs W) (hb : Below W.heap.size W W2) : Lib.IsBuilder T e B b bs W2 := by
  have key : ∀ p, Lib.BuilderAt T e B b p bs W → Lib.BuilderAt T e B b p bs W2 := by
    rintro p ⟨h1, v, h2, ⟨h3, h4⟩, h5⟩
    refine ⟨h1, v, blk_below h2 hb, ⟨h3, ?_⟩, h5⟩
    rcases h4 with h4 | ⟨g, cap, cur, q1, q2, q3, q4⟩
    · exact .inl h4
    · exact .inr ⟨g, cap, cur, q1, q2, blk_below q3 hb, q4⟩
  rcases h with h | h
  · exact .inl (key _ h)
  · exact .inr (key _ h)
theorem str_bytes (l : List UInt8) (s : ByteArray) : Lib.byteCells l ++ Lib.strCells s = Lib.byteCells (l ++ s.data.toList) := by
  unfold Lib.byteCells Lib.strCells
  rw [List.map_append]
theorem tx_world {PP : Program} {md : Region.Mode} {ops : Array Oper} {Q : Exit → Act → World → Prop} {S : World → Prop} {ds : List Nat} {fuel : Nat} {l : Array Bool} {a : Act} {w : World} (R : World → Prop) (hR : R w) (hS : S w) (h : ∀ w', R w' → S w' → wpAnyLast PP md ops Q S ds fuel l a w') : wpAnyLast PP md ops Q S ds fuel l a w := h w hR hS
set_option maxHeartbeats 8000000 in
set_option maxRecDepth 100000 in
theorem power_Text.calls (k : Nat) (A0 : Option Addr) (c0 : Nat) (l0 : List S32) (A1 : Option Addr) (c1 : Nat) (l1 : List S35) (r1 : ByteArray) (r2 : Int) (w : World) (hr0 : Kd.C k32 w A0 l0.length l0) (hc0 : l0.length ≤ c0) (hr1 : Kd.C k35 w A1 l1.length l1) (hc1 : l1.length ≤ c1) (hV : VarsOK w) (h : power_Text.f k l0 l1 = some (r1, r2)) :
    Calls Tryd.prog 5 #[.slice A0 l0.length c0, .slice A1 l1.length c1] w fun e w' => e = .returned (.tuple #[.string r1, .int .i64 r2]) ∧ Below w.heap.size w w' := by
  have HV := Aside0.mk hV
  have HR0 := Aside0.mk hr0
  have HC0 := Aside0.mk hc0
  have HR1 := Aside0.mk hr1
  have HC1 := Aside0.mk hc1
  clear hV hr0 hc0 hr1 hc1
  unfold power_Text.f at h
  replace h := Option.bind_eq_some_iff.mp h
  obtain ⟨c, hc, h⟩ := h
  have A1_ := Aside0.mk hc
  clear hc
  by_cases h0 : c = 0
  · subst h0
    rw [if_pos rfl] at h
    obtain ⟨hok, h⟩ := guardT h
    have hok2 := hok
    unfold textOK at hok2
    simp only [Bool.and_eq_true, List.all_eq_true, decide_eq_true_eq] at hok2
    have OKL := Aside0.mk hok2.1.1
    have OKU := Aside0.mk hok2.1.2
    have OKS := Aside0.mk hok2.2
    have HH := Aside0.mk h
    clear hok hok2 h
    go_enter Tryd.func5, Tryd.ntmps5
    go_wp2_with (first | (go_at_call 12; go_loud (with_reducible refine (power_CheckUses.calls k _ _ l0 _ _ l1 _ _ HR0.out HC0.out HR1.out HC1.out A1_.out).mono ?_); rintro e w5 ⟨rfl, hb5⟩; have HB5 := Aside0.mk hb5; clear hb5) | ((with_reducible refine gate_dst (N := 7) rfl ?_); refine box_event ?hg (N := 7) ?hd (cs := #[.pointer none, .slice none 0 0]) (t := 42) ?hr ?_; (case hd => rfl); (case hg => rfl); (case hr => first | (go_simp; done) | (go_simp; rfl)); intro g7 hg_ w7 hbox hb; have HB7 := Aside0.mk (below_step HB5.out hb); have HI7 := Aside0.mk (show Lib.IsBuilder 42 5 w.heap.size g7 (Lib.byteCells []) w7 from .inl ⟨by rw [hg_]; exact HB5.out.size, .slice none 0 0, hbox, ⟨rfl, .inl ⟨rfl, rfl⟩⟩, by simp [Value.ownBlock]⟩); clear hbox hb hg_))
    have HMAXL := Aside0.mk (show l0.length < 1000000000000 by have h1 := OKS.out; have h2 := line_count_L l0; rw [List.length_append] at h1; omega)
    have HMAXU := Aside0.mk (show l1.length < 1000000000000 by have h1 := OKS.out; have h2 := line_count_U l1; rw [List.length_append] at h1; omega)
    go_loopg [20] l0.length (fun kq v_ w' => ∃ i : Nat, v_ = .int .i64 (i : Int) ∧ Aside0 (kq + i = l0.length) ∧ Aside0 (Below w.heap.size w w') ∧ Aside0 (Lib.IsBuilder 42 5 w.heap.size g7 (Lib.byteCells (textL (l0.take i))) w'))
    case atStart => exact ⟨0, rfl, ⟨rfl⟩, HB7, HI7⟩
    case round =>
      clear HB7 HI7 HB5
      obtain ⟨i, rfl, HK, HB, HI⟩ := hrel
      cases gk with
      | zero =>
        have hi : i = l0.length := by have := HK.out; omega
        subst hi
        have HBe := HB
        have HIe := Aside0.mk (show Lib.IsBuilder 42 5 w.heap.size g7 (Lib.byteCells (textL l0)) wr by have := HI.out; rwa [List.take_length] at this)
        clear HB HI HK
        go_wp2
        go_loopg [42] l1.length (fun kq v_ w' => ∃ i : Nat, v_ = .int .i64 (i : Int) ∧ Aside0 (kq + i = l1.length) ∧ Aside0 (Below w.heap.size w w') ∧ Aside0 (Lib.IsBuilder 42 5 w.heap.size g7 (Lib.byteCells (textL l0 ++ textU (l1.take i))) w'))
        case atStart => exact ⟨0, rfl, ⟨rfl⟩, HBe, ⟨by rw [show textU (l1.take 0) = [] from rfl, List.append_nil]; exact HIe.out⟩⟩
        case round =>
          clear HBe HIe
          obtain ⟨i, rfl, HK, HB, HI⟩ := hrel
          cases gk with
          | zero =>
            have hi : i = l1.length := by have := HK.out; omega
            subst hi
            have HIf := Aside0.mk (show Lib.IsBuilder 42 5 w.heap.size g7 (Lib.byteCells (textL l0 ++ textU l1)) wr by have := HI.out; rwa [List.take_length] at this)
            have HBf := HB
            clear HB HI HK
            have h := HH.out
            obtain ⟨tt, htt⟩ : ∃ tt, tt = textL l0 ++ textU l1 := ⟨_, rfl⟩
            rw [← htt] at h HIf
            have HS := OKS
            rw [← htt] at HS
            have HTT := Aside0.mk htt
            clear htt
            by_cases h5 : tt.length > 50000
            · rw [if_pos h5] at h
              have hd5 : decide (50000 < (tt.length : Int)) = true := decide_eq_true (by omega)
              have hd6 : decide (50000 < tt.length) = true := decide_eq_true h5
              simp only [Option.some.injEq, Prod.mk.injEq] at h
              obtain ⟨rfl, rfl⟩ := h
              clear h5
              go_wp2_with (first | (go_at_call 15; go_loud (refine (Tryd.Builder_Len w.heap.size g7 _ _ HIf.out).mono ?_); rintro e w_ ⟨rfl, rfl⟩; rw [Lib.byteCells_length]) | (go_at_call 16; go_loud (refine (Tryd.Builder_String_any w.heap.size g7 tt _ HIf.out HBf.out.size).mono ?_); rintro e wg ⟨rfl, hbg⟩; have HBg := Aside0.mk (HBf.out.trans hbg); clear hbg))
              refine bodyPost_ret (results_list (rs := [.tmp 4, .tmp 5]) rfl (by simp) (.tmp (.tmp .nil))) rfl ?_
              exact ⟨rfl, by repeat (first | exact HBf.out | apply pw_below_drewN)⟩
            · rw [if_neg h5] at h
              have hd5 : decide (50000 < (tt.length : Int)) = false := decide_eq_false (by omega)
              have hd6 : decide (50000 < tt.length) = false := decide_eq_false h5
              simp only [Option.some.injEq, Prod.mk.injEq] at h
              obtain ⟨rfl, rfl⟩ := h
              clear h5
              go_wp2_with (first | (go_at_call 15; go_loud (refine (Tryd.Builder_Len w.heap.size g7 _ _ HIf.out).mono ?_); rintro e w_ ⟨rfl, rfl⟩; rw [Lib.byteCells_length]) | (go_at_call 16; go_loud (refine (Tryd.Builder_String_any w.heap.size g7 tt _ HIf.out HBf.out.size).mono ?_); rintro e wg ⟨rfl, hbg⟩; have HBg := Aside0.mk (HBf.out.trans hbg); clear hbg))
              refine bodyPost_ret (results_list (rs := [.tmp 4, .tmp 5]) rfl (by simp) (.tmp (.tmp .nil))) rfl ?_
              exact ⟨rfl, by repeat (first | exact HBg.out | apply pw_below_drewN)⟩
          | succ d =>
            have hi : i < l1.length := by have := HK.out; omega
            have hi0 : (0 : Int) ≤ (i : Int) := by omega
            have hi1 : (i : Int) < (l1.length : Int) := by omega
            have hd1 : decide ((i : Int) < (l1.length : Int)) = true := decide_eq_true hi1
            obtain ⟨ad, e, hx0, hx1, hx2⟩ := at_T35 HR1.out (i : Int) hi0 hi1
            subst e
            replace hx0 := cellB HB.out hx0
            replace hx1 := cellB HB.out hx1
            replace hx2 := cellB HB.out hx2
            simp only [Int.toNat_natCast] at hx0 hx1 hx2
            have hsn := textU_snoc hi
            have hlo := OKU.out (rd_T35 l1 (i : Int)) (by unfold rd_T35; simp [List.getD_eq_getElem?_getD, List.getElem?_eq_getElem hi])
            obtain ⟨x, hx⟩ : ∃ x, x = rd_T35 l1 (i : Int) := ⟨_, rfl⟩
            rw [← hx] at hsn hlo hx0 hx1 hx2
            have hlp := line_parts hlo
            have HIA := Aside0.mk (show strconv_Itoa.f x.f1 = some (itoaB x.f1) from if_pos hlp.1)
            have HIB := Aside0.mk (show strconv_Itoa.f x.f2 = some (itoaB x.f2) from if_pos hlp.2.1)
            have hls : (lineB useH x.f0 x.f1 x.f2) = ((((((⟨#[117, 115, 101, 32]⟩ : ByteArray) ++ x.f0) ++ (⟨#[32]⟩ : ByteArray)) ++ itoaB x.f1) ++ (⟨#[32]⟩ : ByteArray)) ++ itoaB x.f2) ++ (⟨#[10]⟩ : ByteArray) := rfl
            rw [hls] at hsn
            obtain ⟨ta, hta⟩ : ∃ ta, ta = itoaB x.f1 := ⟨_, rfl⟩
            obtain ⟨tb, htb⟩ : ∃ tb, tb = itoaB x.f2 := ⟨_, rfl⟩
            have hs := hlp.2.2
            rw [← hta, ← htb] at hs hsn
            rw [← hta] at HIA
            rw [← htb] at HIB
            have hs : 4 + x.f0.size + 1 + ta.size + 1 + tb.size + 1 ≤ 100000 := hs
            have z0 : (9223372036854775807 < 4 + x.f0.size ) = False := eq_false (by omega)
            have z1 : (9223372036854775807 < 4 + x.f0.size + 1) = False := eq_false (by omega)
            have z2 : (9223372036854775807 < 4 + x.f0.size + 1 + ta.size) = False := eq_false (by omega)
            have z3 : (9223372036854775807 < 4 + x.f0.size + 1 + ta.size + 1) = False := eq_false (by omega)
            have z4 : (9223372036854775807 < 4 + x.f0.size + 1 + ta.size + 1 + tb.size) = False := eq_false (by omega)
            have z5 : (9223372036854775807 < 4 + x.f0.size + 1 + ta.size + 1 + tb.size + 1) = False := eq_false (by omega)
            have HSN := Aside0.mk hsn
            have HSZ := Aside0.mk hs
            clear hsn hs hls hlp hlo hx hta htb hi
            go_wp2_with (first | ((with_reducible refine gate_dst (N := 11) rfl ?_); refine box_event ?hg (N := 11) ?hd (cs := #[.string ByteArray.empty, .int .i64 0, .int .i64 0]) (t := 35) ?hr ?_; (case hd => rfl); (case hg => rfl); (case hr => first | (go_simp; done) | (go_simp; rfl)); intro gb hg_ w8 hbox hb; have GB := Aside0.mk hg_; have BK := Aside0.mk hbox; have HW := Aside0.mk hb; have hy0 : w8.cell? ⟨gb, 0, none⟩ = some (.string ByteArray.empty) := (blk_cell hbox 0).trans rfl; have hy1 : w8.cell? ⟨gb, 1, none⟩ = some (.int .i64 0) := (blk_cell hbox 1).trans rfl; have hy2 : w8.cell? ⟨gb, 2, none⟩ = some (.int .i64 0) := (blk_cell hbox 2).trans rfl; have hf0 := blk_frozen hbox 0; have hf1 := blk_frozen hbox 1; have hf2 := blk_frozen hbox 2; clear hbox hb hg_))
            have n0_ : Aside0 ((((w8.setCell ⟨gb, 0, none⟩ (.string x.f0)).setCell ⟨gb, 1, none⟩ (.int .i64 x.f1)).setCell ⟨gb, 2, none⟩ (.int .i64 x.f2)).heap[gb]? = some (.cells #[.string x.f0, .int .i64 x.f1, .int .i64 x.f2] 35 (0, 0))) := ⟨blk_set (blk_set (blk_set BK.out 0 _) 1 _) 2 _⟩
            have n1_ : Aside0 (Below wr.heap.size wr (((w8.setCell ⟨gb, 0, none⟩ (.string x.f0)).setCell ⟨gb, 1, none⟩ (.int .i64 x.f1)).setCell ⟨gb, 2, none⟩ (.int .i64 x.f2))) := ⟨below_set (below_set (below_set HW.out (Nat.le_of_eq GB.out.symm)) (Nat.le_of_eq GB.out.symm)) (Nat.le_of_eq GB.out.symm)⟩
            clear BK HW GB hx0 hx1 hx2 hy0 hy1 hy2 hf0 hf1 hf2
            generalize (((w8.setCell ⟨gb, 0, none⟩ (.string x.f0)).setCell ⟨gb, 1, none⟩ (.int .i64 x.f1)).setCell ⟨gb, 2, none⟩ (.int .i64 x.f2)) = w9 at n0_ n1_ ⊢
            have BK := n0_
            have HW := n1_
            clear n0_ n1_
            refine start_ (n := 15) (S := fun w' => w'.cell? ⟨gb, 0, none⟩ = some (.string x.f0) ∧ w'.cell? ⟨gb, 1, none⟩ = some (.int .i64 x.f1) ∧ w'.cell? ⟨gb, 2, none⟩ = some (.int .i64 x.f2)) (ds := [14]) #[false, false, false, false, false, false, false, false, false, false, false, false, false, false, false] (by kernel_rfl) rfl rfl ⟨(blk_cell BK.out 0).trans rfl, (blk_cell BK.out 1).trans rfl, (blk_cell BK.out 2).trans rfl⟩ (fun hHeld => ?_)
            refine tx_world (R := fun W2 => Below wr.heap.size wr W2 ∧ W2.heap[gb]? = some (.cells #[.string x.f0, .int .i64 x.f1, .int .i64 x.f2] 35 (0, 0))) ⟨below_drew1 HW.out, blk_drew BK.out⟩ hHeld (fun W2 hR2 hHeld => ?_)
            have HW2 := Aside0.mk hR2.1
            have BK2 := Aside0.mk hR2.2
            clear hR2 HW BK
            refine pure_ (i := 0) (N := some 46) (v := ?_) (a' := ?_) #[true, false, false, false, false, false, false, false, false, false, false, false, false, false, false] rfl rfl (by kernel_rfl) (fun _ _ _ h => h) (Or.inl ⟨by rfl, ?_⟩) ?_ ?_
            rotate_left
            · intro w'
              go_simp
              with_reducible rfl
            rotate_left
            · simp only [Act.put, List.setIfInBounds_toArray, List.set_cons_zero, List.set_cons_succ, i64_w, i32_w]
              rfl
            refine take_ (i := 1) (N := some 47) (v := ?_) (a' := ?_) #[true, true, false, false, false, false, false, false, false, false, false, false, false, false, false] rfl rfl (by kernel_rfl) (fun _ _ _ h => h) (Or.inl ⟨by rfl, ?_⟩) hHeld ?_ ?_
            rotate_left
            · rintro w' ⟨s0, s1, s2⟩
              go_simp
              with_reducible rfl
            rotate_left
            · simp only [Act.put, List.setIfInBounds_toArray, List.set_cons_zero, List.set_cons_succ, i64_w, i32_w]
              rfl
            refine pure_ (i := 2) (N := some 48) (v := ?_) (a' := ?_) #[true, true, true, false, false, false, false, false, false, false, false, false, false, false, false] rfl rfl (by kernel_rfl) (fun _ _ _ h => h) (Or.inl ⟨by rfl, ?_⟩) ?_ ?_
            rotate_left
            · intro w'
              go_simp
              with_reducible rfl
            rotate_left
            · simp only [Act.put, List.setIfInBounds_toArray, List.set_cons_zero, List.set_cons_succ, i64_w, i32_w]
              rfl
            refine pure_ (i := 3) (N := some 49) (v := ?_) (a' := ?_) #[true, true, true, true, false, false, false, false, false, false, false, false, false, false, false] rfl rfl (by kernel_rfl) (fun _ _ _ h => h) (Or.inl ⟨by rfl, ?_⟩) ?_ ?_
            rotate_left
            · intro w'
              go_simp
              with_reducible rfl
            rotate_left
            · simp only [Act.put, List.setIfInBounds_toArray, List.set_cons_zero, List.set_cons_succ, i64_w, i32_w]
              rfl
            refine pure_ (i := 4) (N := some 50) (v := ?_) (a' := ?_) #[true, true, true, true, true, false, false, false, false, false, false, false, false, false, false] rfl rfl (by kernel_rfl) (fun _ _ _ h => h) (Or.inl ⟨by rfl, ?_⟩) ?_ ?_
            rotate_left
            · intro w'
              go_simp
              with_reducible rfl
            rotate_left
            · simp only [Act.put, List.setIfInBounds_toArray, List.set_cons_zero, List.set_cons_succ, i64_w, i32_w]
              rfl
            refine take_ (i := 5) (N := some 51) (v := ?_) (a' := ?_) #[true, true, true, true, true, true, false, false, false, false, false, false, false, false, false] rfl rfl (by kernel_rfl) (fun _ _ _ h => h) (Or.inl ⟨by rfl, ?_⟩) hHeld ?_ ?_
            rotate_left
            · rintro w' ⟨s0, s1, s2⟩
              go_simp
              with_reducible rfl
            rotate_left
            · simp only [Act.put, List.setIfInBounds_toArray, List.set_cons_zero, List.set_cons_succ, i64_w, i32_w]
              rfl
            refine pure_ (i := 9) (N := some 55) (v := ?_) (a' := ?_) #[true, true, true, true, true, true, false, false, false, true, false, false, false, false, false] rfl rfl (by kernel_rfl) (fun _ _ _ h => h) (Or.inl ⟨by rfl, ?_⟩) ?_ ?_
            rotate_left
            · intro w'
              go_simp
              with_reducible rfl
            rotate_left
            · simp only [Act.put, List.setIfInBounds_toArray, List.set_cons_zero, List.set_cons_succ, i64_w, i32_w]
              rfl
            refine take_ (i := 10) (N := some 56) (v := ?_) (a' := ?_) #[true, true, true, true, true, true, false, false, false, true, true, false, false, false, false] rfl rfl (by kernel_rfl) (fun _ _ _ h => h) (Or.inl ⟨by rfl, ?_⟩) hHeld ?_ ?_
            rotate_left
            · rintro w' ⟨s0, s1, s2⟩
              go_simp
              with_reducible rfl
            rotate_left
            · simp only [Act.put, List.setIfInBounds_toArray, List.set_cons_zero, List.set_cons_succ, i64_w, i32_w]
              rfl
            refine one_ (i := 6) (N := some 52) #[true, true, true, true, true, true, true, false, false, true, true, false, false, false, false] rfl rfl (by kernel_rfl) (by decide) (fun K hK => ?_)
            refine goes_ Tryd.func14 (by kernel_rfl) rfl #[.int .i64 x.f1] (by rfl) rfl rfl (by (try simp only [List.map_toArray, List.map_cons, List.map_nil]); first | done | rfl) ?_
            with_reducible refine (strconv_Itoa.calls x.f1 ta _ (HV.out.below (below_step HB.out HW2.out)) HIA.out).mono ?_
            rintro e W3 ⟨rfl, hb⟩
            refine ⟨_, rfl, ?_⟩
            have HW3 := Aside0.mk (below_step HW2.out hb)
            have BK3 := Aside0.mk (blk_below BK2.out hb)
            clear hb HW2 BK2
            refine hK.out _ _ ⟨(blk_cell BK3.out 0).trans rfl, (blk_cell BK3.out 1).trans rfl, (blk_cell BK3.out 2).trans rfl⟩ (fun hHeld => ?_)
            clear hK K
            refine norm_ (a' := ?_) ?_ ?_
            rotate_left
            · show Act.put _ (some 52) _ = _
              simp only [Act.put, List.setIfInBounds_toArray, List.set_cons_zero, List.set_cons_succ, i64_w, i32_w]
              rfl
            refine pure_ (i := 7) (N := some 53) (v := ?_) (a' := ?_) #[true, true, true, true, true, true, true, true, false, true, true, false, false, false, false] rfl rfl (by kernel_rfl) (fun _ _ _ h => h) (Or.inl ⟨by rfl, ?_⟩) ?_ ?_
            rotate_left
            · intro w'
              go_simp
              with_reducible rfl
            rotate_left
            · simp only [Act.put, List.setIfInBounds_toArray, List.set_cons_zero, List.set_cons_succ, i64_w, i32_w]
              rfl
            refine pure_ (i := 8) (N := some 54) (v := ?_) (a' := ?_) #[true, true, true, true, true, true, true, true, true, true, true, false, false, false, false] rfl rfl (by kernel_rfl) (fun _ _ _ h => h) (Or.inl ⟨by rfl, ?_⟩) ?_ ?_
            rotate_left
            · intro w'
              go_simp
              with_reducible rfl
            rotate_left
            · simp only [Act.put, List.setIfInBounds_toArray, List.set_cons_zero, List.set_cons_succ, i64_w, i32_w]
              rfl
            refine one_ (i := 11) (N := some 57) #[true, true, true, true, true, true, true, true, true, true, true, true, false, false, false] rfl rfl (by kernel_rfl) (by decide) (fun K hK => ?_)
            refine goes_ Tryd.func14 (by kernel_rfl) rfl #[.int .i64 x.f2] (by rfl) rfl rfl (by (try simp only [List.map_toArray, List.map_cons, List.map_nil]); first | done | rfl) ?_
            with_reducible refine (strconv_Itoa.calls x.f2 tb _ (HV.out.below (below_step HB.out HW3.out)) HIB.out).mono ?_
            rintro e W4 ⟨rfl, hb⟩
            refine ⟨_, rfl, ?_⟩
            have HW4 := Aside0.mk (below_step HW3.out hb)
            have BK4 := Aside0.mk (blk_below BK3.out hb)
            clear hb HW3 BK3
            refine hK.out _ _ ⟨(blk_cell BK4.out 0).trans rfl, (blk_cell BK4.out 1).trans rfl, (blk_cell BK4.out 2).trans rfl⟩ (fun hHeld => ?_)
            clear hK K
            refine norm_ (a' := ?_) ?_ ?_
            rotate_left
            · show Act.put _ (some 57) _ = _
              simp only [Act.put, List.setIfInBounds_toArray, List.set_cons_zero, List.set_cons_succ, i64_w, i32_w]
              rfl
            refine pure_ (i := 12) (N := some 58) (v := ?_) (a' := ?_) #[true, true, true, true, true, true, true, true, true, true, true, true, true, false, false] rfl rfl (by kernel_rfl) (fun _ _ _ h => h) (Or.inl ⟨by rfl, ?_⟩) ?_ ?_
            rotate_left
            · intro w'
              go_simp
              with_reducible rfl
            rotate_left
            · simp only [Act.put, List.setIfInBounds_toArray, List.set_cons_zero, List.set_cons_succ, i64_w, i32_w]
              rfl
            refine pure_ (i := 13) (N := some 59) (v := ?_) (a' := ?_) #[true, true, true, true, true, true, true, true, true, true, true, true, true, true, false] rfl rfl (by kernel_rfl) (fun _ _ _ h => h) (Or.inl ⟨by rfl, ?_⟩) ?_ ?_
            rotate_left
            · intro w'
              go_simp
              with_reducible rfl
            rotate_left
            · simp only [Act.put, List.setIfInBounds_toArray, List.set_cons_zero, List.set_cons_succ, i64_w, i32_w]
              rfl
            refine last_ (i := 14) (N := some 60) #[true, true, true, true, true, true, true, true, true, true, true, true, true, true, true] rfl rfl (by kernel_rfl) (by decide) (fun K hK => ?_)
            refine goes_ Tryd.func13 (by kernel_rfl) rfl #[.pointer (some ⟨g7, 0, none⟩), .string (((((((⟨#[117, 115, 101, 32]⟩ : ByteArray) ++ x.f0) ++ (⟨#[32]⟩ : ByteArray)) ++ ta) ++ (⟨#[32]⟩ : ByteArray)) ++ tb) ++ (⟨#[10]⟩ : ByteArray))] (by rfl) rfl rfl (by (try simp only [List.map_toArray, List.map_cons, List.map_nil]); first | done | rfl) ?_
            have HLEN : (Lib.byteCells (textL l0 ++ textU (l1.take i))).length + (((((((⟨#[117, 115, 101, 32]⟩ : ByteArray) ++ x.f0) ++ (⟨#[32]⟩ : ByteArray)) ++ ta) ++ (⟨#[32]⟩ : ByteArray)) ++ tb) ++ (⟨#[10]⟩ : ByteArray)).size ≤ 140737488355328 := by rw [Lib.byteCells_length, line_size]; have h1 := HSZ.out; have h2 := OKS.out; have h3 := textL_part l0 l0.length; have h4 := textU_part l1 i; rw [List.length_append] at h2; (try rw [List.length_append]); have e : (⟨#[117, 115, 101, 32]⟩ : ByteArray).size = 4 := rfl; omega
            refine (Tryd.Builder_WriteString w.heap.size g7 _ (((((((⟨#[117, 115, 101, 32]⟩ : ByteArray) ++ x.f0) ++ (⟨#[32]⟩ : ByteArray)) ++ ta) ++ (⟨#[32]⟩ : ByteArray)) ++ tb) ++ (⟨#[10]⟩ : ByteArray)) _ (ib_below HI.out HW4.out) HLEN (below_step HB.out HW4.out).size).mono ?_
            rintro e W9 ⟨rfl, hat, hbw⟩
            refine ⟨_, rfl, ?_⟩
            rw [str_bytes] at hat
            have HI2 := Aside0.mk (show Lib.IsBuilder 42 5 w.heap.size g7 (Lib.byteCells (textL l0 ++ textU (l1.take (i + 1)))) W9 by rw [HSN.out]; rw [← List.append_assoc]; exact .inr hat)
            have HB2 := Aside0.mk (show Below w.heap.size w W9 from (below_step HB.out HW4.out).trans hbw)
            clear hat hbw HW4 BK4 HLEN
            refine hK.out _ _ ?_
            clear hK K
            refine norm_ (a' := ?_) ?_ ?_
            rotate_left
            · show Act.put _ (some 60) _ = _
              simp only [Act.put, List.setIfInBounds_toArray, List.set_cons_zero, List.set_cons_succ, i64_w, i32_w]
              rfl
            refine done_ (by kernel_rfl) ?_
            clear hHeld
            have hwi : wrap64 ((i : Int) + 1) = ((i + 1 : Nat) : Int) := by have := HK.out; have := HMAXU.out; unfold wrap64; omega
            go_wp2
            go_roundg d
            case measure => omega
            case rel => exact ⟨i + 1, (by first | rfl | (rw [hwi]) | (simp [hwi]; done) | (simp; done)), ⟨by have := HK.out; omega⟩, ⟨by repeat (first | exact HB2.out | apply pw_below_drewN)⟩, ⟨by first | exact HI2.out | exact ib_below HI2.out (pw_below_drewN (Below.refl _ _) _)⟩⟩
      | succ d =>
        have hi : i < l0.length := by have := HK.out; omega
        have hi0 : (0 : Int) ≤ (i : Int) := by omega
        have hi1 : (i : Int) < (l0.length : Int) := by omega
        have hd1 : decide ((i : Int) < (l0.length : Int)) = true := decide_eq_true hi1
        obtain ⟨ad, e, hx0, hx1, hx2⟩ := at_T32 HR0.out (i : Int) hi0 hi1
        subst e
        replace hx0 := cellB HB.out hx0
        replace hx1 := cellB HB.out hx1
        replace hx2 := cellB HB.out hx2
        simp only [Int.toNat_natCast] at hx0 hx1 hx2
        have hsn := textL_snoc hi
        have hlo := OKL.out (rd_T32 l0 (i : Int)) (by unfold rd_T32; simp [List.getD_eq_getElem?_getD, List.getElem?_eq_getElem hi])
        obtain ⟨x, hx⟩ : ∃ x, x = rd_T32 l0 (i : Int) := ⟨_, rfl⟩
        rw [← hx] at hsn hlo hx0 hx1 hx2
        have hlp := line_parts hlo
        have HIA := Aside0.mk (show strconv_Itoa.f x.f1 = some (itoaB x.f1) from if_pos hlp.1)
        have HIB := Aside0.mk (show strconv_Itoa.f x.f2 = some (itoaB x.f2) from if_pos hlp.2.1)
        have hls : (lineB loadH x.f0 x.f1 x.f2) = ((((((⟨#[108, 111, 97, 100, 32]⟩ : ByteArray) ++ x.f0) ++ (⟨#[32]⟩ : ByteArray)) ++ itoaB x.f1) ++ (⟨#[32]⟩ : ByteArray)) ++ itoaB x.f2) ++ (⟨#[10]⟩ : ByteArray) := rfl
        rw [hls] at hsn
        obtain ⟨ta, hta⟩ : ∃ ta, ta = itoaB x.f1 := ⟨_, rfl⟩
        obtain ⟨tb, htb⟩ : ∃ tb, tb = itoaB x.f2 := ⟨_, rfl⟩
        have hs := hlp.2.2
        rw [← hta, ← htb] at hs hsn
        rw [← hta] at HIA
        rw [← htb] at HIB
        have hs : 5 + x.f0.size + 1 + ta.size + 1 + tb.size + 1 ≤ 100000 := hs
        have z0 : (9223372036854775807 < 5 + x.f0.size ) = False := eq_false (by omega)
        have z1 : (9223372036854775807 < 5 + x.f0.size + 1) = False := eq_false (by omega)
        have z2 : (9223372036854775807 < 5 + x.f0.size + 1 + ta.size) = False := eq_false (by omega)
        have z3 : (9223372036854775807 < 5 + x.f0.size + 1 + ta.size + 1) = False := eq_false (by omega)
        have z4 : (9223372036854775807 < 5 + x.f0.size + 1 + ta.size + 1 + tb.size) = False := eq_false (by omega)
        have z5 : (9223372036854775807 < 5 + x.f0.size + 1 + ta.size + 1 + tb.size + 1) = False := eq_false (by omega)
        have HSN := Aside0.mk hsn
        have HSZ := Aside0.mk hs
        clear hsn hs hls hlp hlo hx hta htb hi
        go_wp2_with (first | ((with_reducible refine gate_dst (N := 9) rfl ?_); refine box_event ?hg (N := 9) ?hd (cs := #[.string ByteArray.empty, .int .i64 0, .int .i64 0]) (t := 32) ?hr ?_; (case hd => rfl); (case hg => rfl); (case hr => first | (go_simp; done) | (go_simp; rfl)); intro gb hg_ w8 hbox hb; have GB := Aside0.mk hg_; have BK := Aside0.mk hbox; have HW := Aside0.mk hb; have hy0 : w8.cell? ⟨gb, 0, none⟩ = some (.string ByteArray.empty) := (blk_cell hbox 0).trans rfl; have hy1 : w8.cell? ⟨gb, 1, none⟩ = some (.int .i64 0) := (blk_cell hbox 1).trans rfl; have hy2 : w8.cell? ⟨gb, 2, none⟩ = some (.int .i64 0) := (blk_cell hbox 2).trans rfl; have hf0 := blk_frozen hbox 0; have hf1 := blk_frozen hbox 1; have hf2 := blk_frozen hbox 2; clear hbox hb hg_))
        have n0_ : Aside0 ((((w8.setCell ⟨gb, 0, none⟩ (.string x.f0)).setCell ⟨gb, 1, none⟩ (.int .i64 x.f1)).setCell ⟨gb, 2, none⟩ (.int .i64 x.f2)).heap[gb]? = some (.cells #[.string x.f0, .int .i64 x.f1, .int .i64 x.f2] 32 (0, 0))) := ⟨blk_set (blk_set (blk_set BK.out 0 _) 1 _) 2 _⟩
        have n1_ : Aside0 (Below wr.heap.size wr (((w8.setCell ⟨gb, 0, none⟩ (.string x.f0)).setCell ⟨gb, 1, none⟩ (.int .i64 x.f1)).setCell ⟨gb, 2, none⟩ (.int .i64 x.f2))) := ⟨below_set (below_set (below_set HW.out (Nat.le_of_eq GB.out.symm)) (Nat.le_of_eq GB.out.symm)) (Nat.le_of_eq GB.out.symm)⟩
        clear BK HW GB hx0 hx1 hx2 hy0 hy1 hy2 hf0 hf1 hf2
        generalize (((w8.setCell ⟨gb, 0, none⟩ (.string x.f0)).setCell ⟨gb, 1, none⟩ (.int .i64 x.f1)).setCell ⟨gb, 2, none⟩ (.int .i64 x.f2)) = w9 at n0_ n1_ ⊢
        have BK := n0_
        have HW := n1_
        clear n0_ n1_
        refine start_ (n := 15) (S := fun w' => w'.cell? ⟨gb, 0, none⟩ = some (.string x.f0) ∧ w'.cell? ⟨gb, 1, none⟩ = some (.int .i64 x.f1) ∧ w'.cell? ⟨gb, 2, none⟩ = some (.int .i64 x.f2)) (ds := [14]) #[false, false, false, false, false, false, false, false, false, false, false, false, false, false, false] (by kernel_rfl) rfl rfl ⟨(blk_cell BK.out 0).trans rfl, (blk_cell BK.out 1).trans rfl, (blk_cell BK.out 2).trans rfl⟩ (fun hHeld => ?_)
        refine tx_world (R := fun W2 => Below wr.heap.size wr W2 ∧ W2.heap[gb]? = some (.cells #[.string x.f0, .int .i64 x.f1, .int .i64 x.f2] 32 (0, 0))) ⟨below_drew1 HW.out, blk_drew BK.out⟩ hHeld (fun W2 hR2 hHeld => ?_)
        have HW2 := Aside0.mk hR2.1
        have BK2 := Aside0.mk hR2.2
        clear hR2 HW BK
        refine pure_ (i := 0) (N := some 24) (v := ?_) (a' := ?_) #[true, false, false, false, false, false, false, false, false, false, false, false, false, false, false] rfl rfl (by kernel_rfl) (fun _ _ _ h => h) (Or.inl ⟨by rfl, ?_⟩) ?_ ?_
        rotate_left
        · intro w'
          go_simp
          with_reducible rfl
        rotate_left
        · simp only [Act.put, List.setIfInBounds_toArray, List.set_cons_zero, List.set_cons_succ, i64_w, i32_w]
          rfl
        refine take_ (i := 1) (N := some 25) (v := ?_) (a' := ?_) #[true, true, false, false, false, false, false, false, false, false, false, false, false, false, false] rfl rfl (by kernel_rfl) (fun _ _ _ h => h) (Or.inl ⟨by rfl, ?_⟩) hHeld ?_ ?_
        rotate_left
        · rintro w' ⟨s0, s1, s2⟩
          go_simp
          with_reducible rfl
        rotate_left
        · simp only [Act.put, List.setIfInBounds_toArray, List.set_cons_zero, List.set_cons_succ, i64_w, i32_w]
          rfl
        refine pure_ (i := 2) (N := some 26) (v := ?_) (a' := ?_) #[true, true, true, false, false, false, false, false, false, false, false, false, false, false, false] rfl rfl (by kernel_rfl) (fun _ _ _ h => h) (Or.inl ⟨by rfl, ?_⟩) ?_ ?_
        rotate_left
        · intro w'
          go_simp
          with_reducible rfl
        rotate_left
        · simp only [Act.put, List.setIfInBounds_toArray, List.set_cons_zero, List.set_cons_succ, i64_w, i32_w]
          rfl
        refine pure_ (i := 3) (N := some 27) (v := ?_) (a' := ?_) #[true, true, true, true, false, false, false, false, false, false, false, false, false, false, false] rfl rfl (by kernel_rfl) (fun _ _ _ h => h) (Or.inl ⟨by rfl, ?_⟩) ?_ ?_
        rotate_left
        · intro w'
          go_simp
          with_reducible rfl
        rotate_left
        · simp only [Act.put, List.setIfInBounds_toArray, List.set_cons_zero, List.set_cons_succ, i64_w, i32_w]
          rfl
        refine pure_ (i := 4) (N := some 28) (v := ?_) (a' := ?_) #[true, true, true, true, true, false, false, false, false, false, false, false, false, false, false] rfl rfl (by kernel_rfl) (fun _ _ _ h => h) (Or.inl ⟨by rfl, ?_⟩) ?_ ?_
        rotate_left
        · intro w'
          go_simp
          with_reducible rfl
        rotate_left
        · simp only [Act.put, List.setIfInBounds_toArray, List.set_cons_zero, List.set_cons_succ, i64_w, i32_w]
          rfl
        refine take_ (i := 5) (N := some 29) (v := ?_) (a' := ?_) #[true, true, true, true, true, true, false, false, false, false, false, false, false, false, false] rfl rfl (by kernel_rfl) (fun _ _ _ h => h) (Or.inl ⟨by rfl, ?_⟩) hHeld ?_ ?_
        rotate_left
        · rintro w' ⟨s0, s1, s2⟩
          go_simp
          with_reducible rfl
        rotate_left
        · simp only [Act.put, List.setIfInBounds_toArray, List.set_cons_zero, List.set_cons_succ, i64_w, i32_w]
          rfl
        refine pure_ (i := 9) (N := some 33) (v := ?_) (a' := ?_) #[true, true, true, true, true, true, false, false, false, true, false, false, false, false, false] rfl rfl (by kernel_rfl) (fun _ _ _ h => h) (Or.inl ⟨by rfl, ?_⟩) ?_ ?_
        rotate_left
        · intro w'
          go_simp
          with_reducible rfl
        rotate_left
        · simp only [Act.put, List.setIfInBounds_toArray, List.set_cons_zero, List.set_cons_succ, i64_w, i32_w]
          rfl
        refine take_ (i := 10) (N := some 34) (v := ?_) (a' := ?_) #[true, true, true, true, true, true, false, false, false, true, true, false, false, false, false] rfl rfl (by kernel_rfl) (fun _ _ _ h => h) (Or.inl ⟨by rfl, ?_⟩) hHeld ?_ ?_
        rotate_left
        · rintro w' ⟨s0, s1, s2⟩
          go_simp
          with_reducible rfl
        rotate_left
        · simp only [Act.put, List.setIfInBounds_toArray, List.set_cons_zero, List.set_cons_succ, i64_w, i32_w]
          rfl
        refine one_ (i := 6) (N := some 30) #[true, true, true, true, true, true, true, false, false, true, true, false, false, false, false] rfl rfl (by kernel_rfl) (by decide) (fun K hK => ?_)
        refine goes_ Tryd.func14 (by kernel_rfl) rfl #[.int .i64 x.f1] (by rfl) rfl rfl (by (try simp only [List.map_toArray, List.map_cons, List.map_nil]); first | done | rfl) ?_
        with_reducible refine (strconv_Itoa.calls x.f1 ta _ (HV.out.below (below_step HB.out HW2.out)) HIA.out).mono ?_
        rintro e W3 ⟨rfl, hb⟩
        refine ⟨_, rfl, ?_⟩
        have HW3 := Aside0.mk (below_step HW2.out hb)
        have BK3 := Aside0.mk (blk_below BK2.out hb)
        clear hb HW2 BK2
        refine hK.out _ _ ⟨(blk_cell BK3.out 0).trans rfl, (blk_cell BK3.out 1).trans rfl, (blk_cell BK3.out 2).trans rfl⟩ (fun hHeld => ?_)
        clear hK K
        refine norm_ (a' := ?_) ?_ ?_
        rotate_left
        · show Act.put _ (some 30) _ = _
          simp only [Act.put, List.setIfInBounds_toArray, List.set_cons_zero, List.set_cons_succ, i64_w, i32_w]
          rfl
        refine pure_ (i := 7) (N := some 31) (v := ?_) (a' := ?_) #[true, true, true, true, true, true, true, true, false, true, true, false, false, false, false] rfl rfl (by kernel_rfl) (fun _ _ _ h => h) (Or.inl ⟨by rfl, ?_⟩) ?_ ?_
        rotate_left
        · intro w'
          go_simp
          with_reducible rfl
        rotate_left
        · simp only [Act.put, List.setIfInBounds_toArray, List.set_cons_zero, List.set_cons_succ, i64_w, i32_w]
          rfl
        refine pure_ (i := 8) (N := some 32) (v := ?_) (a' := ?_) #[true, true, true, true, true, true, true, true, true, true, true, false, false, false, false] rfl rfl (by kernel_rfl) (fun _ _ _ h => h) (Or.inl ⟨by rfl, ?_⟩) ?_ ?_
        rotate_left
        · intro w'
          go_simp
          with_reducible rfl
        rotate_left
        · simp only [Act.put, List.setIfInBounds_toArray, List.set_cons_zero, List.set_cons_succ, i64_w, i32_w]
          rfl
        refine one_ (i := 11) (N := some 35) #[true, true, true, true, true, true, true, true, true, true, true, true, false, false, false] rfl rfl (by kernel_rfl) (by decide) (fun K hK => ?_)
        refine goes_ Tryd.func14 (by kernel_rfl) rfl #[.int .i64 x.f2] (by rfl) rfl rfl (by (try simp only [List.map_toArray, List.map_cons, List.map_nil]); first | done | rfl) ?_
        with_reducible refine (strconv_Itoa.calls x.f2 tb _ (HV.out.below (below_step HB.out HW3.out)) HIB.out).mono ?_
        rintro e W4 ⟨rfl, hb⟩
        refine ⟨_, rfl, ?_⟩
        have HW4 := Aside0.mk (below_step HW3.out hb)
        have BK4 := Aside0.mk (blk_below BK3.out hb)
        clear hb HW3 BK3
        refine hK.out _ _ ⟨(blk_cell BK4.out 0).trans rfl, (blk_cell BK4.out 1).trans rfl, (blk_cell BK4.out 2).trans rfl⟩ (fun hHeld => ?_)
        clear hK K
        refine norm_ (a' := ?_) ?_ ?_
        rotate_left
        · show Act.put _ (some 35) _ = _
          simp only [Act.put, List.setIfInBounds_toArray, List.set_cons_zero, List.set_cons_succ, i64_w, i32_w]
          rfl
        refine pure_ (i := 12) (N := some 36) (v := ?_) (a' := ?_) #[true, true, true, true, true, true, true, true, true, true, true, true, true, false, false] rfl rfl (by kernel_rfl) (fun _ _ _ h => h) (Or.inl ⟨by rfl, ?_⟩) ?_ ?_
        rotate_left
        · intro w'
          go_simp
          with_reducible rfl
        rotate_left
        · simp only [Act.put, List.setIfInBounds_toArray, List.set_cons_zero, List.set_cons_succ, i64_w, i32_w]
          rfl
        refine pure_ (i := 13) (N := some 37) (v := ?_) (a' := ?_) #[true, true, true, true, true, true, true, true, true, true, true, true, true, true, false] rfl rfl (by kernel_rfl) (fun _ _ _ h => h) (Or.inl ⟨by rfl, ?_⟩) ?_ ?_
        rotate_left
        · intro w'
          go_simp
          with_reducible rfl
        rotate_left
        · simp only [Act.put, List.setIfInBounds_toArray, List.set_cons_zero, List.set_cons_succ, i64_w, i32_w]
          rfl
        refine last_ (i := 14) (N := some 38) #[true, true, true, true, true, true, true, true, true, true, true, true, true, true, true] rfl rfl (by kernel_rfl) (by decide) (fun K hK => ?_)
        refine goes_ Tryd.func13 (by kernel_rfl) rfl #[.pointer (some ⟨g7, 0, none⟩), .string (((((((⟨#[108, 111, 97, 100, 32]⟩ : ByteArray) ++ x.f0) ++ (⟨#[32]⟩ : ByteArray)) ++ ta) ++ (⟨#[32]⟩ : ByteArray)) ++ tb) ++ (⟨#[10]⟩ : ByteArray))] (by rfl) rfl rfl (by (try simp only [List.map_toArray, List.map_cons, List.map_nil]); first | done | rfl) ?_
        have HLEN : (Lib.byteCells (textL (l0.take i))).length + (((((((⟨#[108, 111, 97, 100, 32]⟩ : ByteArray) ++ x.f0) ++ (⟨#[32]⟩ : ByteArray)) ++ ta) ++ (⟨#[32]⟩ : ByteArray)) ++ tb) ++ (⟨#[10]⟩ : ByteArray)).size ≤ 140737488355328 := by rw [Lib.byteCells_length, line_size]; have h1 := HSZ.out; have h2 := OKS.out; have h3 := textL_part l0 i; have h4 := textU_part l1 i; rw [List.length_append] at h2; (try rw [List.length_append]); have e : (⟨#[108, 111, 97, 100, 32]⟩ : ByteArray).size = 5 := rfl; omega
        refine (Tryd.Builder_WriteString w.heap.size g7 _ (((((((⟨#[108, 111, 97, 100, 32]⟩ : ByteArray) ++ x.f0) ++ (⟨#[32]⟩ : ByteArray)) ++ ta) ++ (⟨#[32]⟩ : ByteArray)) ++ tb) ++ (⟨#[10]⟩ : ByteArray)) _ (ib_below HI.out HW4.out) HLEN (below_step HB.out HW4.out).size).mono ?_
        rintro e W9 ⟨rfl, hat, hbw⟩
        refine ⟨_, rfl, ?_⟩
        rw [str_bytes] at hat
        have HI2 := Aside0.mk (show Lib.IsBuilder 42 5 w.heap.size g7 (Lib.byteCells (textL (l0.take (i + 1)))) W9 by rw [HSN.out]; exact .inr hat)
        have HB2 := Aside0.mk (show Below w.heap.size w W9 from (below_step HB.out HW4.out).trans hbw)
        clear hat hbw HW4 BK4 HLEN
        refine hK.out _ _ ?_
        clear hK K
        refine norm_ (a' := ?_) ?_ ?_
        rotate_left
        · show Act.put _ (some 38) _ = _
          simp only [Act.put, List.setIfInBounds_toArray, List.set_cons_zero, List.set_cons_succ, i64_w, i32_w]
          rfl
        refine done_ (by kernel_rfl) ?_
        clear hHeld
        have hwi : wrap64 ((i : Int) + 1) = ((i + 1 : Nat) : Int) := by have := HK.out; have := HMAXL.out; unfold wrap64; omega
        go_wp2
        go_roundg d
        case measure => omega
        case rel => exact ⟨i + 1, (by first | rfl | (rw [hwi]) | (simp [hwi]; done) | (simp; done)), ⟨by have := HK.out; omega⟩, ⟨by repeat (first | exact HB2.out | apply pw_below_drewN)⟩, ⟨by first | exact HI2.out | exact ib_below HI2.out (pw_below_drewN (Below.refl _ _) _)⟩⟩
  · rw [if_neg h0] at h
    have c4 : (c != 0) = true := bne_iff_ne.mpr h0
    have c5 : (c == 0) = false := beq_eq_false_iff_ne.mpr h0
    clear h0
    simp only [Option.some.injEq, Prod.mk.injEq] at h
    obtain ⟨rfl, rfl⟩ := h
    go_enter Tryd.func5, Tryd.ntmps5
    go_wp2_with (first | (go_at_call 12; go_loud (with_reducible refine (power_CheckUses.calls k _ _ l0 _ _ l1 _ _ HR0.out HC0.out HR1.out HC1.out A1_.out).mono ?_); rintro e w5 ⟨rfl, hb5⟩; have HB5 := Aside0.mk hb5; clear hb5))
    refine bodyPost_ret (results_list (rs := [.tmp 4, .tmp 5]) rfl (by simp) (.tmp (.tmp .nil))) rfl ?_
    exact ⟨rfl, by repeat (first | exact HB5.out | apply pw_below_drewN)⟩
end Go.Proofs.YtplcdpiggpkppaaDoor.Q
