-- Made by wip/tools/claimp.py of this session's texts; Lean checks it.
import Derived.Test.YthmdnmfocnchkaaC1Q0
import Derived.Test.YthmdnmfocnchkaaC1Gu3
import Derived.Test.YthmdnmfocnchkaaC1Gu4
import Derived.Test.YthmdnmfocnchkaaC1Gu5
namespace Go.Proofs.Ythmdnmfocnchkaa.Q
open Go.RowKit Go.Proofs.YthmdnmfocnchkaaW.PrintWords Go.Proofs.YthmdnmfocnchkaaW.PrintLast Go.Proofs.YthmdnmfocnchkaaW.PrintMore
attribute [local go_sem] max2_int min2_int max_two min_two max_three min_three max_four min_four
open Go.Proofs.Ythmdnmfocnchkaa.Base
attribute [local go_sem high] str_leq str_gtr str_geq
set_option linter.unusedVariables false
set_option linter.unusedSimpArgs false
def perigeeref12_Uplinked.go (K : Nat) (key counter number : Int) (lines : List ByteArray) : Nat → Nat → List (List Int) → Option (List (List Int) × Int)
  | 0, _, out => some (out, 0)
  | d + 1, i, out => if (rdOf ByteArray.empty lines (i : Int)).size < 140737488355328 then (perigeeref5_OrderBytes.f K 1 (Int.tmod (wrap64 (number + i)) 256) (bytesOf (rdOf ByteArray.empty lines (i : Int)))).bind fun o => if o.2 = 0 then ((perigeeref5_Signed.f K key (wrap64 (counter + i)) o.1).bind fun g => if g.2 = 0 then
      (perigeeref1_Bytes.f K 1 true 3 (Int.tmod (wrap64 (counter + i)) 16384) g.1).bind fun b => if b.2 = 0 then (if out.length < 4398046511104 then perigeeref12_Uplinked.go K key counter number lines d (i + 1) (out ++ [b.1]) else none) else some ([], b.2) else some ([], g.2)) else some ([], o.2) else none
def perigeeref12_Uplinked.f (K : Nat) (key counter number : Int) (lines : List ByteArray) : Option (List (List Int) × Int) :=
  if (lines.length : Int) > 500 then some ([], 2) else (perigeeref12_fromTo.f number 0 255).bind fun b => if b = true then perigeeref12_Uplinked.go K key counter number lines lines.length 0 [] else some ([], 1)
theorem upr.info : (Try.prog.info? 28).map (fun i => (i.zero, i.size, i.bytes)) = some (some (.slice none 0 0), 1, 24) := by kernel_rfl
set_option maxHeartbeats 8000000 in
set_option maxRecDepth 100000 in
theorem perigeeref12_Uplinked.calls (k : Nat) (a0 a1 a2 : Int) (A3 : Option Addr) (c3 : Nat) (l3 : List ByteArray) (r1 : List (List Int)) (r2 : Int) (w : World) (hr3 : Kd.C Kd.string w A3 l3.length l3) (hc3 : l3.length ≤ c3) (h : perigeeref12_Uplinked.f k a0 a1 a2 l3 = some (r1, r2)) :
    Calls Try.prog 10 #[.int .i64 a0, .int .i64 a1, .int .i64 a2, .slice A3 l3.length c3] w fun e w' => ∃ v0_ : Value, e = .returned (.tuple #[v0_, .int .i64 r2]) ∧ Kd.S (Kd.slice 5 (Kd.int .u8)) 28 w' w.heap.size (fun _ => True) v0_ r1 ∧ Below w.heap.size w w' := by
  have HR3 := Aside0.mk hr3
  have HC3 := Aside0.mk hc3
  clear hr3 hc3
  unfold perigeeref12_Uplinked.f at h
  split at h
  · rename_i hl
    have hd : decide ((l3.length : Int) > 500) = true := decide_eq_true hl
    have hd2 : ((500 : Int) < (l3.length : Int)) = True := eq_true hl
    have e := Option.some.inj h
    injection e with e1 e2
    subst e1 e2
    clear h
    go_enter Try.func10, Try.ntmps10
    go_wp2
    go_ret2
    exact ⟨_, rfl, Kd.S_nil _ _ _ _ _, Below.refl _ _⟩
  · rename_i hl
    have hd : decide ((l3.length : Int) > 500) = false := decide_eq_false hl
    have hd2 : ((500 : Int) < (l3.length : Int)) = False := eq_false hl
    have HL := Aside0.mk (show l3.length ≤ 500 by omega)
    clear hl
    replace h := Option.bind_eq_some_iff.mp h
    obtain ⟨bI, hI, h⟩ := h
    have HI := Aside0.mk hI
    clear hI
    cases bI with
    | false =>
      rw [if_neg Bool.false_ne_true] at h
      have e := Option.some.inj h
      injection e with e1 e2
      subst e1 e2
      clear h
      go_enter Try.func10, Try.ntmps10
      go_wp2_with (go_at_call 39; (with_reducible refine (perigeeref12_fromTo.calls a2 0 255 false _ HI.out).mono ?_); rintro e wq ⟨rfl, ⟨nd, rfl⟩⟩)
      go_ret2
      exact ⟨_, rfl, Kd.S_nil _ _ _ _ _, pw_below_drewN (Below.refl _ _) _⟩
    | true =>
      rw [if_pos rfl] at h
      have HG := Aside0.mk h
      clear h
      go_enter Try.func10, Try.ntmps10
      go_wp2_with (go_at_call 39; (with_reducible refine (perigeeref12_fromTo.calls a2 0 255 true _ HI.out).mono ?_); rintro e wq ⟨rfl, ⟨nd, rfl⟩⟩)
      have HO0 := Aside0.mk (show Kd.S (Kd.slice 5 (Kd.int .u8)) 28 (w.drewN nd) w.heap.size (fun _ => True) (.slice none 0 0) [] from Kd.S_nil _ _ _ _ _)
      have HB0 := Aside0.mk (pw_below_drewN (Below.refl w.heap.size w) nd)
      go_loopg [10, 25] l3.length (fun kq v10 v25 w' => ∃ (i : Nat) (out : List (List Int)), v25 = .int .i64 i ∧ Aside0 (kq + i = l3.length) ∧ Aside0 (Kd.S (Kd.slice 5 (Kd.int .u8)) 28 w' w.heap.size (fun _ => True) v10 out) ∧ Aside0 (Below w.heap.size w w') ∧ Aside0 (perigeeref12_Uplinked.go k a0 a1 a2 l3 kq i out = some (r1, r2)))
      case atStart => exact ⟨0, [], rfl, ⟨rfl⟩, ⟨HO0.out⟩, ⟨HB0.out⟩, ⟨HG.out⟩⟩
      case round =>
        clear HO0 HB0 HG
        obtain ⟨i, out, rfl, HK, HO, HB, HG⟩ := hrel
        cases gk with
        | zero =>
          have hi : i = l3.length := by have := HK.out; omega
          subst hi
          have hg := HG.out
          unfold perigeeref12_Uplinked.go at hg
          have e := Option.some.inj hg
          injection e with e1 e2
          subst e1 e2
          clear hg HG
          go_wp2
          go_ret2
          exact ⟨_, rfl, HO.out, HB.out⟩
        | succ d =>
          have hi0 : (0 : Int) ≤ (i : Int) := by omega
          have hi1 : (i : Int) < (l3.length : Int) := by have := HK.out; omega
          have hd1 : decide ((i : Int) < (l3.length : Int)) = true := decide_eq_true hi1
          have hwi : wrap64 ((i : Int) + 1) = (i : Int) + 1 := by have := HL.out; unfold wrap64; omega
          obtain ⟨ad, e, hx⟩ := Kd.at_string (Kd.C_below HR3.out HB.out) (i : Int) hi0 hi1
          subst e
          rw [Int.toNat_natCast] at hx
          have hg := HG.out
          unfold perigeeref12_Uplinked.go at hg
          obtain ⟨s, hs⟩ : ∃ s, s = rdOf ByteArray.empty l3 (i : Int) := ⟨_, rfl⟩
          rw [← hs] at hx hg
          split at hg
          · rename_i hsz
            have HSZ := Aside0.mk hsz
            obtain ⟨y, hy⟩ : ∃ y, y = bytesOf s := ⟨_, rfl⟩
            rw [← hy] at hg
            have HY := Aside0.mk hy
            replace hg := Option.bind_eq_some_iff.mp hg
            obtain ⟨⟨o1, o2⟩, hOB, hg⟩ := hg
            have HOB := Aside0.mk hOB
            clear hs hsz hy hOB HG
            split at hg
            · rename_i ho2
              have eo2 : o2 = 0 := ho2
              subst eo2
              clear ho2
              replace hg := Option.bind_eq_some_iff.mp hg
              obtain ⟨⟨g1, g2⟩, hSG, hg⟩ := hg
              have HSG := Aside0.mk hSG
              clear hSG
              split at hg
              · rename_i hzg2
                have ezg2 : g2 = 0 := hzg2
                subst ezg2
                clear hzg2
                replace hg := Option.bind_eq_some_iff.mp hg
                obtain ⟨⟨b1, b2⟩, hPB, hg⟩ := hg
                have HPB := Aside0.mk hPB
                clear hPB
                split at hg
                · rename_i hzb2
                  have ezb2 : b2 = 0 := hzb2
                  subst ezb2
                  clear hzb2
                  replace hg := hg
                  split at hg
                  · rename_i hln
                    have HLN := Aside0.mk (show (out.length + 1) * 24 ≤ 140737488355328 by omega)
                    have HG := Aside0.mk (show perigeeref12_Uplinked.go k a0 a1 a2 l3 d (i + 1) (out ++ [b1]) = some (r1, r2) from hg)
                    clear hg hln
                    go_wp2_with (first | ((with_reducible refine gate_dst (N := 36) rfl ?_); refine conv_event rfl rfl rfl HSZ.out ?_; intro cy wy hy0 hyc hb; rw [← HY.out] at hy0 hyc ⊢; have HYR := Aside0.mk hy0; have HYC := Aside0.mk hyc; have n0_ := Aside0.mk (Kd.S_below HO.out hb); have n1_ := Aside0.mk (below_step HB.out hb); clear HO HB hy0 hyc hb; have HO := n0_; have HB := n1_; clear n0_ n1_) | ((with_reducible refine gate_callee (f := 40) rfl ?_); go_loud (refine goesL_ (some 38) rfl rfl Try.func40 (by kernel_rfl) rfl #[.agg #[.int .i64 1, .int .i64 (Int.tmod (wrap64 (a2 + i)) 256), .slice (some ⟨_, 0, none⟩) y.length cy]] rfl (by (try simp only [List.map_toArray, List.map_cons, List.map_nil]); first | done | rfl) ?_); go_loud (with_reducible refine (perigeeref5_OrderBytes.calls k 1 (Int.tmod (wrap64 (a2 + i)) 256) _ _ y o1 _ _ HYR.out HYC.out HOB.out).mono ?_); rintro e wo ⟨vo, rfl, ho, hb⟩; refine ⟨_, rfl, ?_⟩; have n0_ := Aside0.mk (Kd.R_lower ho HB.out.size); have n1_ := Aside0.mk (Kd.S_mono (Kd.S_elder' HO.out (Kd.R_base ho) hb) (fun _ _ => trivial)); have n2_ := Aside0.mk (below_step HB.out hb); clear HO HB ho hb; have Ho := n0_; have HO := n1_; have HB := n2_; clear n0_ n1_ n2_; obtain ⟨Ao, co, eo⟩ := Kd.R_slice Ho.out; subst eo) | (go_at_call 41; go_loud (with_reducible refine (perigeeref5_Signed.calls k a0 (wrap64 (a1 + i)) _ _ o1 g1 _ _ (Kd.R_reads' Ho.out).2.2 (Kd.R_reads' Ho.out).2.1 HSG.out).mono ?_); rintro e wg ⟨vg, rfl, ho, hb⟩; have n0_ := Aside0.mk (Kd.R_lower ho HB.out.size); have n1_ := Aside0.mk (Kd.S_mono (Kd.S_elder' HO.out (Kd.R_base ho) hb) (fun _ _ => trivial)); have n2_ := Aside0.mk (below_step HB.out hb); clear HO HB ho hb; have Hg := n0_; have HO := n1_; have HB := n2_; clear n0_ n1_ n2_; obtain ⟨Ag, cg, eg⟩ := Kd.R_slice Hg.out; subst eg) | ((with_reducible refine gate_callee (f := 20) rfl ?_); go_loud (refine goesL_ (some 63) rfl rfl Try.func20 (by kernel_rfl) rfl #[.agg #[.int .i64 1, .bool true, .int .i64 3, .int .i64 (Int.tmod (wrap64 (a1 + i)) 16384), .slice Ag g1.length cg]] rfl (by (try simp only [List.map_toArray, List.map_cons, List.map_nil]); first | done | rfl) ?_); go_loud (with_reducible refine (perigeeref1_Bytes.calls k 1 true 3 (Int.tmod (wrap64 (a1 + i)) 16384) _ _ g1 b1 _ _ (Kd.R_reads' Hg.out).2.2 (Kd.R_reads' Hg.out).2.1 HPB.out).mono ?_); rintro e wb ⟨vb, rfl, ho, hb⟩; refine ⟨_, rfl, ?_⟩; have n0_ := Aside0.mk (Kd.R_lower ho HB.out.size); have n1_ := Aside0.mk (Kd.S_elder' HO.out (Kd.R_base ho) hb); have n2_ := Aside0.mk (below_step HB.out hb); clear HO HB ho hb; have Hb := n0_; have HO := n1_; have HB := n2_; clear n0_ n1_ n2_; obtain ⟨Ab, cb, eb⟩ := Kd.R_slice Hb.out; subst eb) | (at_builtin; go_loud (refine Kd.S_append (Kd.slice 5 (Kd.int .u8)) (w0 := w) w.heap.size rfl (.tmp 69) (.tmp 71) 23 28 (.slice none 0 0) 24 rfl Try.underlying23 upr.info rfl (by decide) (by omega) _ out b1 [.slice Ab b1.length cb] (fun _ => True) (fun k_ => some k_ = (.slice Ab b1.length cb : Value).ownBlock) rfl rfl (Kd.M_row (Kd.R_mono (Kd.R_tight rfl Hb.out) (fun _ h_ => h_))) (fun k_ hk_ => ((Kd.R_mono (ok' := fun k_ => True ∧ some k_ ≠ (u10 : Value).ownBlock) (Kd.R_apart' Hb.out (Kd.S_typed HO.out) (by decide)) (fun k_ hk => ⟨trivial, hk.2⟩))).1 k_ hk_.symm) (fun _ _ => trivial) (Kd.S_mono HO.out (fun k_ hk => ⟨trivial, fun e_ => hk.2 e_⟩)) HB.out HB.out.size HLN.out ?_); intro va wa ho hb hg hat; have n0_ := Aside0.mk ho; have n1_ := Aside0.mk hb; clear HO HB ho hb hg hat; have HO := n0_; have HB := n1_; clear n0_ n1_))
                    go_roundg d
                    case measure => have := HK.out; omega
                    case rel => exact ⟨i + 1, out ++ [b1], by simp [hwi], ⟨by have := HK.out; omega⟩, ⟨HO.out⟩, ⟨HB.out⟩, ⟨HG.out⟩⟩
                  · cases hg
                · rename_i hnb2
                  have hnb2' : ¬ b2 = 0 := hnb2
                  have hq1 : (b2 == 0) = false := beq_eq_false_iff_ne.2 hnb2'
                  have hq2 : (b2 != 0) = true := bne_iff_ne.2 hnb2'
                  have e := Option.some.inj hg
                  injection e with e1 e2
                  subst e1 e2
                  clear hg hnb2 hnb2'
                  go_wp2_with (first | ((with_reducible refine gate_dst (N := 36) rfl ?_); refine conv_event rfl rfl rfl HSZ.out ?_; intro cy wy hy0 hyc hb; rw [← HY.out] at hy0 hyc ⊢; have HYR := Aside0.mk hy0; have HYC := Aside0.mk hyc; have n0_ := Aside0.mk (Kd.S_below HO.out hb); have n1_ := Aside0.mk (below_step HB.out hb); clear HO HB hy0 hyc hb; have HO := n0_; have HB := n1_; clear n0_ n1_) | ((with_reducible refine gate_callee (f := 40) rfl ?_); go_loud (refine goesL_ (some 38) rfl rfl Try.func40 (by kernel_rfl) rfl #[.agg #[.int .i64 1, .int .i64 (Int.tmod (wrap64 (a2 + i)) 256), .slice (some ⟨_, 0, none⟩) y.length cy]] rfl (by (try simp only [List.map_toArray, List.map_cons, List.map_nil]); first | done | rfl) ?_); go_loud (with_reducible refine (perigeeref5_OrderBytes.calls k 1 (Int.tmod (wrap64 (a2 + i)) 256) _ _ y o1 _ _ HYR.out HYC.out HOB.out).mono ?_); rintro e wo ⟨vo, rfl, ho, hb⟩; refine ⟨_, rfl, ?_⟩; have n0_ := Aside0.mk (Kd.R_lower ho HB.out.size); have n1_ := Aside0.mk (Kd.S_mono (Kd.S_elder' HO.out (Kd.R_base ho) hb) (fun _ _ => trivial)); have n2_ := Aside0.mk (below_step HB.out hb); clear HO HB ho hb; have Ho := n0_; have HO := n1_; have HB := n2_; clear n0_ n1_ n2_; obtain ⟨Ao, co, eo⟩ := Kd.R_slice Ho.out; subst eo) | (go_at_call 41; go_loud (with_reducible refine (perigeeref5_Signed.calls k a0 (wrap64 (a1 + i)) _ _ o1 g1 _ _ (Kd.R_reads' Ho.out).2.2 (Kd.R_reads' Ho.out).2.1 HSG.out).mono ?_); rintro e wg ⟨vg, rfl, ho, hb⟩; have n0_ := Aside0.mk (Kd.R_lower ho HB.out.size); have n1_ := Aside0.mk (Kd.S_mono (Kd.S_elder' HO.out (Kd.R_base ho) hb) (fun _ _ => trivial)); have n2_ := Aside0.mk (below_step HB.out hb); clear HO HB ho hb; have Hg := n0_; have HO := n1_; have HB := n2_; clear n0_ n1_ n2_; obtain ⟨Ag, cg, eg⟩ := Kd.R_slice Hg.out; subst eg) | ((with_reducible refine gate_callee (f := 20) rfl ?_); go_loud (refine goesL_ (some 63) rfl rfl Try.func20 (by kernel_rfl) rfl #[.agg #[.int .i64 1, .bool true, .int .i64 3, .int .i64 (Int.tmod (wrap64 (a1 + i)) 16384), .slice Ag g1.length cg]] rfl (by (try simp only [List.map_toArray, List.map_cons, List.map_nil]); first | done | rfl) ?_); go_loud (with_reducible refine (perigeeref1_Bytes.calls k 1 true 3 (Int.tmod (wrap64 (a1 + i)) 16384) _ _ g1 b1 _ _ (Kd.R_reads' Hg.out).2.2 (Kd.R_reads' Hg.out).2.1 HPB.out).mono ?_); rintro e wb ⟨vb, rfl, ho, hb⟩; refine ⟨_, rfl, ?_⟩; have n0_ := Aside0.mk (Kd.R_lower ho HB.out.size); have n1_ := Aside0.mk (Kd.S_elder' HO.out (Kd.R_base ho) hb); have n2_ := Aside0.mk (below_step HB.out hb); clear HO HB ho hb; have Hb := n0_; have HO := n1_; have HB := n2_; clear n0_ n1_ n2_; obtain ⟨Ab, cb, eb⟩ := Kd.R_slice Hb.out; subst eb))
                  go_ret2
                  exact ⟨_, rfl, Kd.S_nil _ _ _ _ _, HB.out⟩
              · rename_i hng2
                have hng2' : ¬ g2 = 0 := hng2
                have hq1 : (g2 == 0) = false := beq_eq_false_iff_ne.2 hng2'
                have hq2 : (g2 != 0) = true := bne_iff_ne.2 hng2'
                have e := Option.some.inj hg
                injection e with e1 e2
                subst e1 e2
                clear hg hng2 hng2'
                go_wp2_with (first | ((with_reducible refine gate_dst (N := 36) rfl ?_); refine conv_event rfl rfl rfl HSZ.out ?_; intro cy wy hy0 hyc hb; rw [← HY.out] at hy0 hyc ⊢; have HYR := Aside0.mk hy0; have HYC := Aside0.mk hyc; have n0_ := Aside0.mk (Kd.S_below HO.out hb); have n1_ := Aside0.mk (below_step HB.out hb); clear HO HB hy0 hyc hb; have HO := n0_; have HB := n1_; clear n0_ n1_) | ((with_reducible refine gate_callee (f := 40) rfl ?_); go_loud (refine goesL_ (some 38) rfl rfl Try.func40 (by kernel_rfl) rfl #[.agg #[.int .i64 1, .int .i64 (Int.tmod (wrap64 (a2 + i)) 256), .slice (some ⟨_, 0, none⟩) y.length cy]] rfl (by (try simp only [List.map_toArray, List.map_cons, List.map_nil]); first | done | rfl) ?_); go_loud (with_reducible refine (perigeeref5_OrderBytes.calls k 1 (Int.tmod (wrap64 (a2 + i)) 256) _ _ y o1 _ _ HYR.out HYC.out HOB.out).mono ?_); rintro e wo ⟨vo, rfl, ho, hb⟩; refine ⟨_, rfl, ?_⟩; have n0_ := Aside0.mk (Kd.R_lower ho HB.out.size); have n1_ := Aside0.mk (Kd.S_mono (Kd.S_elder' HO.out (Kd.R_base ho) hb) (fun _ _ => trivial)); have n2_ := Aside0.mk (below_step HB.out hb); clear HO HB ho hb; have Ho := n0_; have HO := n1_; have HB := n2_; clear n0_ n1_ n2_; obtain ⟨Ao, co, eo⟩ := Kd.R_slice Ho.out; subst eo) | (go_at_call 41; go_loud (with_reducible refine (perigeeref5_Signed.calls k a0 (wrap64 (a1 + i)) _ _ o1 g1 _ _ (Kd.R_reads' Ho.out).2.2 (Kd.R_reads' Ho.out).2.1 HSG.out).mono ?_); rintro e wg ⟨vg, rfl, ho, hb⟩; have n0_ := Aside0.mk (Kd.R_lower ho HB.out.size); have n1_ := Aside0.mk (Kd.S_mono (Kd.S_elder' HO.out (Kd.R_base ho) hb) (fun _ _ => trivial)); have n2_ := Aside0.mk (below_step HB.out hb); clear HO HB ho hb; have Hg := n0_; have HO := n1_; have HB := n2_; clear n0_ n1_ n2_; obtain ⟨Ag, cg, eg⟩ := Kd.R_slice Hg.out; subst eg))
                go_ret2
                exact ⟨_, rfl, Kd.S_nil _ _ _ _ _, HB.out⟩
            · rename_i ho2
              have ho2' : ¬ o2 = 0 := ho2
              have hq1 : (o2 == 0) = false := beq_eq_false_iff_ne.2 ho2'
              have hq2 : (o2 != 0) = true := bne_iff_ne.2 ho2'
              have e := Option.some.inj hg
              injection e with e1 e2
              subst e1 e2
              clear hg ho2 ho2'
              go_wp2_with (first | ((with_reducible refine gate_dst (N := 36) rfl ?_); refine conv_event rfl rfl rfl HSZ.out ?_; intro cy wy hy0 hyc hb; rw [← HY.out] at hy0 hyc ⊢; have HYR := Aside0.mk hy0; have HYC := Aside0.mk hyc; have n0_ := Aside0.mk (Kd.S_below HO.out hb); have n1_ := Aside0.mk (below_step HB.out hb); clear HO HB hy0 hyc hb; have HO := n0_; have HB := n1_; clear n0_ n1_) | ((with_reducible refine gate_callee (f := 40) rfl ?_); go_loud (refine goesL_ (some 38) rfl rfl Try.func40 (by kernel_rfl) rfl #[.agg #[.int .i64 1, .int .i64 (Int.tmod (wrap64 (a2 + i)) 256), .slice (some ⟨_, 0, none⟩) y.length cy]] rfl (by (try simp only [List.map_toArray, List.map_cons, List.map_nil]); first | done | rfl) ?_); go_loud (with_reducible refine (perigeeref5_OrderBytes.calls k 1 (Int.tmod (wrap64 (a2 + i)) 256) _ _ y o1 _ _ HYR.out HYC.out HOB.out).mono ?_); rintro e wo ⟨vo, rfl, ho, hb⟩; refine ⟨_, rfl, ?_⟩; have n0_ := Aside0.mk (Kd.R_lower ho HB.out.size); have n1_ := Aside0.mk (Kd.S_elder' HO.out (Kd.R_base ho) hb); have n2_ := Aside0.mk (below_step HB.out hb); clear HO HB ho hb; have Ho := n0_; have HO := n1_; have HB := n2_; clear n0_ n1_ n2_; obtain ⟨Ao, co, eo⟩ := Kd.R_slice Ho.out; subst eo))
              go_ret2
              exact ⟨_, rfl, Kd.S_nil _ _ _ _ _, HB.out⟩
          · cases hg
def slices_Equal_byte_byte.l0 : Nat → List Int → List Int → Int → Int → Option (Bool)
  | 0, _, _, _, _ => none
  | k + 1, x0, x1, x12, x13 => if x13 < x12 then (if 0 ≤ x13 then (if x13 < (x0.length : Int) then (if x13 < (x1.length : Int) then (if (rd x0 x13) = (rd x1 x13) then (slices_Equal_byte_byte.l0 k x0 x1 x12 (wrap64 (x13 + 1))) else (some false)) else (none)) else (none)) else (none)) else (some true)
def slices_Equal_byte_byte.f (k : Nat) (l0 : List Int) (l1 : List Int) : Option (Bool) := if (l0.length : Int) = (l1.length : Int) then (slices_Equal_byte_byte.l0 k l0 l1 (l0.length : Int) 0) else (some false)
theorem d42a {p : Prop} (h : p := by repeat (first | exact Drawn0.refl _ | apply Drawn0.step)) : p := h
theorem d42b {p : Prop} (h : p := by first | (with_reducible assumption) | assumption) : p := h
theorem d42c {p : Prop} (h : p := by first | rfl | (simp; done) | (simp [*]; done)) : p := h
set_option maxHeartbeats 8000000 in
set_option maxRecDepth 100000 in
theorem slices_Equal_byte_byte.calls (k : Nat) (A0 : Option Addr) (c0 : Nat) (l0 : List Int) (A1 : Option Addr) (c1 : Nat) (l1 : List Int) (r : Bool) (w : World) (hr0 : Kd.C (Kd.int .u8) w A0 l0.length l0) (hc0 : l0.length ≤ c0) (hr1 : Kd.C (Kd.int .u8) w A1 l1.length l1) (hc1 : l1.length ≤ c1) (h : slices_Equal_byte_byte.f k l0 l1 = some r) :
 Calls Try.prog 42 #[.slice A0 l0.length c0, .slice A1 l1.length c1] w fun e w' => e = .returned (.bool r) ∧ Drawn0 w w' := by
 have HR0 := Aside0.mk hr0
 have HC0 := Aside0.mk hc0
 clear hr0 hc0
 have HR1 := Aside0.mk hr1
 have HC1 := Aside0.mk hc1
 clear hr1 hc1
 have H : (if (l0.length : Int) = (l1.length : Int) then (slices_Equal_byte_byte.l0 k l0 l1 (l0.length : Int) 0) else (some false)) = some r := h
 clear h
 by_cases c3 : (l0.length : Int) = (l1.length : Int)
 · rw [if_pos c3] at H
   have c3b0 : ((l0.length : Int) == (l1.length : Int)) = true := beq_iff_eq.mpr c3
   have c3b1 : ((l0.length : Int) != (l1.length : Int)) = false := bne_eq_false_iff_eq.mpr c3
   have c3b2 : (l0.length == l1.length) = true := by first | simpa using c3 | (simp at c3 ⊢; omega)
   clear c3
   have H' := Aside0.mk H
   clear H
   go_enter Try.func42, Try.ntmps42
   go_wp2
   go_loopg [13] k (fun kq v13 w' => ∃ (x13_1 : Int), v13 = .int .i64 x13_1 ∧ Aside0 (slices_Equal_byte_byte.l0 kq l0 l1 (l0.length : Int) x13_1 = some r) ∧ Aside0 (kq ≤ k) ∧ Drawn0 w w')
   case atStart => exact ⟨(0), d42c, H', ⟨Nat.le_refl _⟩, d42a⟩
   case round =>
    clear H'
    try clear c3b0
    try clear c3b1
    try clear c3b2
    obtain ⟨x13_1, rfl, HA, HK1, ⟨m1, rfl⟩⟩ := hrel
    cases gk with
    | zero => exact absurd HA.out (by simp [slices_Equal_byte_byte.l0])
    | succ k1 =>
     have H := HA.out
     clear HA
     simp only [slices_Equal_byte_byte.l0] at H
     by_cases c4 : x13_1 < (l0.length : Int)
     · rw [if_pos c4] at H
       have c4b0 : decide (x13_1 < (l0.length : Int)) = true := decide_eq_true c4
       clear c4
       replace H := guardT H; obtain ⟨c5, H⟩ := H
       have c5b0 : decide (0 ≤ x13_1) = true := decide_eq_true c5
       clear c5
       replace H := guardT H; obtain ⟨c6, H⟩ := H
       have c6b0 : decide (x13_1 < (l0.length : Int)) = true := decide_eq_true c6
       clear c6
       replace H := guardT H; obtain ⟨c7, H⟩ := H
       have c7b0 : decide (x13_1 < (l1.length : Int)) = true := decide_eq_true c7
       clear c7
       by_cases c8 : (rd l0 x13_1) = (rd l1 x13_1)
       · rw [if_pos c8] at H
         have c8b0 : ((rd l0 x13_1) == (rd l1 x13_1)) = true := beq_iff_eq.mpr c8
         have c8b1 : ((rd l0 x13_1) != (rd l1 x13_1)) = false := bne_eq_false_iff_eq.mpr c8
         clear c8
         have H' := Aside0.mk H
         clear H
         have p101 : 0 ≤ (x13_1 : Int) := of_decide_eq_true d42b
         have q101 : x13_1 < (l0.length : Int) := of_decide_eq_true d42b
         obtain ⟨ad101, e101, hx101_0⟩ := Kd.at_int HR0.out x13_1 p101 q101
         cases e101
         replace p101 := eq_true p101
         replace q101 := eq_true q101
         have p102 : 0 ≤ (x13_1 : Int) := of_decide_eq_true d42b
         have q102 : x13_1 < (l1.length : Int) := of_decide_eq_true d42b
         obtain ⟨ad102, e102, hx102_0⟩ := Kd.at_int HR1.out x13_1 p102 q102
         cases e102
         replace p102 := eq_true p102
         replace q102 := eq_true q102
         go_wp2
         repeat (go_quiet (fail); try go_wp2)
         go_roundg k1
         case measure => have := HK1.out; omega
         case rel => exact ⟨(wrap64 (x13_1 + 1)), d42c, H', ⟨by have := HK1.out; omega⟩, d42a⟩
       · rw [if_neg c8] at H
         have c8b0 : ((rd l0 x13_1) == (rd l1 x13_1)) = false := beq_eq_false_iff_ne.mpr c8
         have c8b1 : ((rd l0 x13_1) != (rd l1 x13_1)) = true := bne_iff_ne.mpr c8
         obtain rfl := Option.some.inj H
         have p101 : 0 ≤ (x13_1 : Int) := of_decide_eq_true d42b
         have q101 : x13_1 < (l0.length : Int) := of_decide_eq_true d42b
         obtain ⟨ad101, e101, hx101_0⟩ := Kd.at_int HR0.out x13_1 p101 q101
         cases e101
         replace p101 := eq_true p101
         replace q101 := eq_true q101
         have p102 : 0 ≤ (x13_1 : Int) := of_decide_eq_true d42b
         have q102 : x13_1 < (l1.length : Int) := of_decide_eq_true d42b
         obtain ⟨ad102, e102, hx102_0⟩ := Kd.at_int HR1.out x13_1 p102 q102
         cases e102
         replace p102 := eq_true p102
         replace q102 := eq_true q102
         go_wp2
         repeat (go_quiet (fail); try go_wp2)
         go_ret
         exact ⟨d42c, d42a⟩
     · rw [if_neg c4] at H
       have c4b0 : decide (x13_1 < (l0.length : Int)) = false := decide_eq_false c4
       clear c4
       obtain rfl := Option.some.inj H
       go_wp2
       go_ret
       exact ⟨d42c, d42a⟩
 · rw [if_neg c3] at H
   have c3b0 : ((l0.length : Int) == (l1.length : Int)) = false := beq_eq_false_iff_ne.mpr c3
   have c3b1 : ((l0.length : Int) != (l1.length : Int)) = true := bne_iff_ne.mpr c3
   have c3b2 : (l0.length == l1.length) = false := by first | simpa using c3 | (simp at c3 ⊢; omega)
   obtain rfl := Option.some.inj H
   go_enter Try.func42, Try.ntmps42
   go_wp2
   go_ret
   exact ⟨d42c, d42a⟩
def perigeelaw12_sameBytes.f (k : Nat) (l0 : List Int) (l1 : List Int) : Option (Bool) := (slices_Equal_byte_byte.f k l0 l1).bind fun t101 => (some t101)
set_option maxHeartbeats 8000000 in
set_option maxRecDepth 100000 in
theorem perigeelaw12_sameBytes.calls (k : Nat) (A0 : Option Addr) (c0 : Nat) (l0 : List Int) (A1 : Option Addr) (c1 : Nat) (l1 : List Int) (r : Bool) (w : World) (hr0 : Kd.C (Kd.int .u8) w A0 l0.length l0) (hc0 : l0.length ≤ c0) (hr1 : Kd.C (Kd.int .u8) w A1 l1.length l1) (hc1 : l1.length ≤ c1) (h : perigeelaw12_sameBytes.f k l0 l1 = some r) :
 Calls Try.prog 12 #[.slice A0 l0.length c0, .slice A1 l1.length c1] w fun e w' => e = .returned (.bool r) ∧ Drawn0 w w' := by
 have HR0 := Aside0.mk hr0
 have HC0 := Aside0.mk hc0
 clear hr0 hc0
 have HR1 := Aside0.mk hr1
 have HC1 := Aside0.mk hc1
 clear hr1 hc1
 have H : ((slices_Equal_byte_byte.f k l0 l1).bind fun t101 => (some t101)) = some r := h
 clear h
 replace H := bindS H; obtain ⟨t101, A3, H⟩ := H
 obtain rfl := Option.some.inj H
 go_enter Try.func12, Try.ntmps12
 go_wp2_with ((with_reducible refine gate_callee (f := 42) rfl ?_); refine goesL_ (some 7) rfl rfl Try.func42 (by kernel_rfl) rfl #[.slice A0 l0.length c0, .slice A1 l1.length c1] rfl (by (try simp only [List.map_toArray, List.map_cons, List.map_nil]); first | done | rfl | (simp only [List.length_drop, List.length_take]; rfl)) ?_; (with_reducible refine (slices_Equal_byte_byte.calls k _ _ l0 _ _ l1 t101 _ ?side1 ?side2 ?side3 ?side4 A3.out).mono ?_); (case side1 => exact C_go HR0.out); (case side2 => exact HC0.out); (case side3 => exact C_go HR1.out); (case side4 => exact HC1.out); rintro e w' ⟨rfl, ⟨nd, rfl⟩⟩; refine ⟨_, rfl, ?_⟩)
 go_ret
 exact ⟨by first | rfl | (simp; done) | (simp [*]; done), by repeat (first | exact Drawn0.refl _ | apply Drawn0.step)⟩
def slices_EqualFunc_byte_byte_byte_byte.l0 : Nat → List (List Int) → List (List Int) → Int → Int → Option (Bool)
  | 0, _, _, _, _ => none
  | k + 1, x1, x15, x16, x17 => if x17 < x16 then (if 0 ≤ x17 then (if x17 < (x15.length : Int) then (if x17 < (x1.length : Int) then ((perigeelaw12_sameBytes.f k (rd_L3 x15 x17) (rd_L3 x1 x17)).bind fun t103 => (if t103 = true then (slices_EqualFunc_byte_byte_byte_byte.l0 k x1 x15 x16 (wrap64 (x17 + 1))) else (some false))) else (none)) else (none)) else (none)) else (some true)
def slices_EqualFunc_byte_byte_byte_byte.f (k : Nat) (l0 : List (List Int)) (l1 : List (List Int))  : Option (Bool) := if (l0.length : Int) = (l1.length : Int) then (slices_EqualFunc_byte_byte_byte_byte.l0 k l1 l0 (l0.length : Int) 0) else (some false)
theorem d11a {p : Prop} (h : p := by repeat (first | exact Drawn0.refl _ | apply Drawn0.step)) : p := h
theorem d11b {p : Prop} (h : p := by first | (with_reducible assumption) | assumption) : p := h
theorem d11c {p : Prop} (h : p := by first | rfl | (simp; done) | (simp [*]; done)) : p := h
set_option maxHeartbeats 8000000 in
set_option maxRecDepth 100000 in
theorem slices_EqualFunc_byte_byte_byte_byte.calls (k : Nat) (A0 : Option Addr) (c0 : Nat) (l0 : List (List Int)) (A1 : Option Addr) (c1 : Nat) (l1 : List (List Int))  (r : Bool) (w : World) (hr0 : Kd.C (Kd.slice 5 (Kd.int .u8)) w A0 l0.length l0) (hc0 : l0.length ≤ c0) (hr1 : Kd.C (Kd.slice 5 (Kd.int .u8)) w A1 l1.length l1) (hc1 : l1.length ≤ c1) (h : slices_EqualFunc_byte_byte_byte_byte.f k l0 l1 = some r) :
 Calls Try.prog 11 #[.slice A0 l0.length c0, .slice A1 l1.length c1, .func (.func 12) #[] #[]] w fun e w' => e = .returned (.bool r) ∧ Drawn0 w w' := by
 have HR0 := Aside0.mk hr0
 have HC0 := Aside0.mk hc0
 clear hr0 hc0
 have HR1 := Aside0.mk hr1
 have HC1 := Aside0.mk hc1
 clear hr1 hc1
 have H : (if (l0.length : Int) = (l1.length : Int) then (slices_EqualFunc_byte_byte_byte_byte.l0 k l1 l0 (l0.length : Int) 0) else (some false)) = some r := h
 clear h
 by_cases c4 : (l0.length : Int) = (l1.length : Int)
 · rw [if_pos c4] at H
   have c4b0 : ((l0.length : Int) == (l1.length : Int)) = true := beq_iff_eq.mpr c4
   have c4b1 : ((l0.length : Int) != (l1.length : Int)) = false := bne_eq_false_iff_eq.mpr c4
   have c4b2 : (l0.length == l1.length) = true := by first | simpa using c4 | (simp at c4 ⊢; omega)
   clear c4
   have H' := Aside0.mk H
   clear H
   go_enter Try.func11, Try.ntmps11
   go_wp2
   go_loopg [17] k (fun kq v17 w' => ∃ (x17_1 : Int), v17 = .int .i64 x17_1 ∧ Aside0 (slices_EqualFunc_byte_byte_byte_byte.l0 kq l1 l0 (l0.length : Int) x17_1 = some r) ∧ Aside0 (kq ≤ k) ∧ Drawn0 w w')
   case atStart => exact ⟨(0), d11c, H', ⟨Nat.le_refl _⟩, d11a⟩
   case round =>
    clear H'
    try clear c4b0
    try clear c4b1
    try clear c4b2
    obtain ⟨x17_1, rfl, HA, HK1, ⟨m1, rfl⟩⟩ := hrel
    cases gk with
    | zero => exact absurd HA.out (by simp [slices_EqualFunc_byte_byte_byte_byte.l0])
    | succ k1 =>
     have H := HA.out
     clear HA
     simp only [slices_EqualFunc_byte_byte_byte_byte.l0] at H
     by_cases c5 : x17_1 < (l0.length : Int)
     · rw [if_pos c5] at H
       have c5b0 : decide (x17_1 < (l0.length : Int)) = true := decide_eq_true c5
       clear c5
       replace H := guardT H; obtain ⟨c6, H⟩ := H
       have c6b0 : decide (0 ≤ x17_1) = true := decide_eq_true c6
       clear c6
       replace H := guardT H; obtain ⟨c7, H⟩ := H
       have c7b0 : decide (x17_1 < (l0.length : Int)) = true := decide_eq_true c7
       clear c7
       replace H := guardT H; obtain ⟨c8, H⟩ := H
       have c8b0 : decide (x17_1 < (l1.length : Int)) = true := decide_eq_true c8
       clear c8
       replace H := bindS H; obtain ⟨t103, A9, H⟩ := H
       by_cases c10 : t103 = true
       · subst c10
         replace H := iteT H
         have H' := Aside0.mk H
         clear H
         have p101 : 0 ≤ (x17_1 : Int) := of_decide_eq_true d11b
         have q101 : x17_1 < (l0.length : Int) := of_decide_eq_true d11b
         obtain ⟨ad101, A101_0, c101_0, e101, hx101_0, hl101_0, hi101_0⟩ := at_L3 HR0.out x17_1 p101 q101
         cases e101
         have HR101_0 := Aside0.mk hi101_0
         have HC101_0 := Aside0.mk hl101_0
         clear hi101_0 hl101_0
         replace p101 := eq_true p101
         replace q101 := eq_true q101
         have p102 : 0 ≤ (x17_1 : Int) := of_decide_eq_true d11b
         have q102 : x17_1 < (l1.length : Int) := of_decide_eq_true d11b
         obtain ⟨ad102, A102_0, c102_0, e102, hx102_0, hl102_0, hi102_0⟩ := at_L3 HR1.out x17_1 p102 q102
         cases e102
         have HR102_0 := Aside0.mk hi102_0
         have HC102_0 := Aside0.mk hl102_0
         clear hi102_0 hl102_0
         replace p102 := eq_true p102
         replace q102 := eq_true q102
         go_wp2_with ((with_reducible refine (perigeelaw12_sameBytes.calls k1 _ _ (rd_L3 l0 x17_1) _ _ (rd_L3 l1 x17_1) true _ ?side1 ?side2 ?side3 ?side4 A9.out).mono ?_); (case side1 => exact C_go HR101_0.out); (case side2 => exact HC101_0.out); (case side3 => exact C_go HR102_0.out); (case side4 => exact HC102_0.out); rintro e w' ⟨rfl, ⟨nd, rfl⟩⟩)
         go_roundg k1
         case measure => have := HK1.out; omega
         case rel => exact ⟨(wrap64 (x17_1 + 1)), d11c, H', ⟨by have := HK1.out; omega⟩, d11a⟩
       · replace c10 := Bool.eq_false_iff.mpr c10
         subst c10
         replace H := iteF H
         obtain rfl := Option.some.inj H
         have p101 : 0 ≤ (x17_1 : Int) := of_decide_eq_true d11b
         have q101 : x17_1 < (l0.length : Int) := of_decide_eq_true d11b
         obtain ⟨ad101, A101_0, c101_0, e101, hx101_0, hl101_0, hi101_0⟩ := at_L3 HR0.out x17_1 p101 q101
         cases e101
         have HR101_0 := Aside0.mk hi101_0
         have HC101_0 := Aside0.mk hl101_0
         clear hi101_0 hl101_0
         replace p101 := eq_true p101
         replace q101 := eq_true q101
         have p102 : 0 ≤ (x17_1 : Int) := of_decide_eq_true d11b
         have q102 : x17_1 < (l1.length : Int) := of_decide_eq_true d11b
         obtain ⟨ad102, A102_0, c102_0, e102, hx102_0, hl102_0, hi102_0⟩ := at_L3 HR1.out x17_1 p102 q102
         cases e102
         have HR102_0 := Aside0.mk hi102_0
         have HC102_0 := Aside0.mk hl102_0
         clear hi102_0 hl102_0
         replace p102 := eq_true p102
         replace q102 := eq_true q102
         go_wp2_with ((with_reducible refine (perigeelaw12_sameBytes.calls k1 _ _ (rd_L3 l0 x17_1) _ _ (rd_L3 l1 x17_1) false _ ?side1 ?side2 ?side3 ?side4 A9.out).mono ?_); (case side1 => exact C_go HR101_0.out); (case side2 => exact HC101_0.out); (case side3 => exact C_go HR102_0.out); (case side4 => exact HC102_0.out); rintro e w' ⟨rfl, ⟨nd, rfl⟩⟩)
         go_ret
         exact ⟨d11c, d11a⟩
     · rw [if_neg c5] at H
       have c5b0 : decide (x17_1 < (l0.length : Int)) = false := decide_eq_false c5
       clear c5
       obtain rfl := Option.some.inj H
       go_wp2
       go_ret
       exact ⟨d11c, d11a⟩
 · rw [if_neg c4] at H
   have c4b0 : ((l0.length : Int) == (l1.length : Int)) = false := beq_eq_false_iff_ne.mpr c4
   have c4b1 : ((l0.length : Int) != (l1.length : Int)) = true := bne_iff_ne.mpr c4
   have c4b2 : (l0.length == l1.length) = false := by first | simpa using c4 | (simp at c4 ⊢; omega)
   obtain rfl := Option.some.inj H
   go_enter Try.func11, Try.ntmps11
   go_wp2
   go_ret
   exact ⟨d11c, d11a⟩
def perigeelaw12_flies.f (k : Nat)  : Option (Bool) := (craft_Uplinked.f k 7 1 0 (([(⟨#[99, 108, 101, 97, 110]⟩ : ByteArray)] : List ByteArray))).bind fun bt104 => (if bt104.2 = 0 then (if (bt104.1.length : Int) = 1 then (if 0 < (bt104.1.length : Int) then (some (((rd_L3 bt104.1 0).length : Int) == 31)) else (none)) else (some false)) else (some false))
theorem d13a {p : Prop} (h : p := by (try simp only [List.map_toArray, List.map_cons, List.map_nil]); first | done | rfl | (simp only [List.length_drop, List.length_take]; rfl)) : p := h
theorem d13b {p : Prop} (h : p := by repeat (first | (with_reducible first | exact HB.out | apply below_alloc | apply pw_below_drewN | apply below_drew1) | exact HB.out)) : p := h
theorem d13c {p : Prop} (h : p := by (with_reducible repeat (first | apply Kd.R_alloc | apply Kd.R_drewN | apply Kd.R_drew)); exact HO103.out) : p := h
theorem d13d {p : Prop} (h : p := by first | rfl | (simp [errW_none, errW_some] <;> rfl) | (simp [*, errW_none, errW_some] <;> rfl)) : p := h
set_option maxHeartbeats 8000000 in
set_option maxRecDepth 100000 in
theorem perigeelaw12_flies.calls (k : Nat)  (r : Bool) (w : World) (h : perigeelaw12_flies.f k  = some r) :
 Calls Try.prog 13 #[] w fun e w' => e = .returned (.bool r) ∧ Below w.heap.size w w' := by
 have HB := Aside0.mk (Below.refl w.heap.size w)
 have H : ((craft_Uplinked.f k 7 1 0 (([(⟨#[99, 108, 101, 97, 110]⟩ : ByteArray)] : List ByteArray))).bind fun bt104 => (if bt104.2 = 0 then (if (bt104.1.length : Int) = 1 then (if 0 < (bt104.1.length : Int) then (some (((rd_L3 bt104.1 0).length : Int) == 31)) else (none)) else (some false)) else (some false))) = some r := h
 clear h
 obtain ⟨y101, hy101⟩ : ∃ y_ : List ByteArray, y_ = (([(⟨#[99, 108, 101, 97, 110]⟩ : ByteArray)] : List ByteArray)) := ⟨_, rfl⟩
 replace H : ((craft_Uplinked.f k 7 1 0 y101).bind fun bt104 => (if bt104.2 = 0 then (if (bt104.1.length : Int) = 1 then (if 0 < (bt104.1.length : Int) then (some (((rd_L3 bt104.1 0).length : Int) == 31)) else (none)) else (some false)) else (some false))) = some r := by first | (rw [hy101]; with_reducible exact H) | (have H2_ := (Option.bind_some _ _).symm.trans H; rw [hy101]; with_reducible exact H2_) | (have H2_ := (Option.bind_some _ _).symm.trans H; with_reducible exact H2_) | with_reducible exact H | (rw [hy101]; exact H) | exact H
 have Ny101 := Aside0.mk hy101
 clear hy101
 replace H := bindS H; obtain ⟨⟨t104, t105⟩, A1, H⟩ := H
 by_cases c2 : t105 = 0
 · rw [if_pos c2] at H
   have c2b0 : (t105 == 0) = true := beq_iff_eq.mpr c2
   have c2b1 : (t105 != 0) = false := bne_eq_false_iff_eq.mpr c2
   clear c2
   by_cases c3 : (t104.length : Int) = 1
   · rw [if_pos c3] at H
     have c3b0 : ((t104.length : Int) == 1) = true := beq_iff_eq.mpr c3
     have c3b1 : ((t104.length : Int) != 1) = false := bne_eq_false_iff_eq.mpr c3
     clear c3
     replace H := guardT H; obtain ⟨c4, H⟩ := H; change 0 < (t104.length : Int) at c4
     have c4b0 : decide (0 < (t104.length : Int)) = true := decide_eq_true c4
     have c4b1 : decide (0 < t104.length) = true := decide_eq_true (by omega)
     clear c4
     obtain rfl := Option.some.inj H
     go_enter Try.func13, Try.ntmps13
     go_wp2_with (first | ((with_reducible refine gate_dst (N := 4) rfl ?_); (try (refine gate_guard (by rfl) ?_; dsimp only)); refine Kd.R_lit Kd.string _ 9 ?hg (N := 4) ?hd (xs := ([(⟨#[99, 108, 101, 97, 110]⟩ : ByteArray)] : List ByteArray)) (inner := [.string (⟨#[99, 108, 101, 97, 110]⟩ : ByteArray)]) (ok := fun _ => True) (okp := fun _ => True) ?hr ?hp (fun _ hk => hk) trivial (Below.refl _ _) (Nat.le_refl _) (by simp) ?_; (case hd => rfl); (case hg => rfl); (case hr => first | (go_simp; done) | (go_simp; rfl)); (case hp => exact (Reps.one (show Kd.M Kd.string _ _ _ (⟨#[99, 108, 101, 97, 110]⟩ : ByteArray) [.string (⟨#[99, 108, 101, 97, 110]⟩ : ByteArray)] from rfl) (Reps.none _ _))); intro v102 w5 ho6 hb hg_ hnew_; clear hg_ hnew_; (first | rw [← Ny101.out] at ho6 | (simp only [Int.reduceToNat] at ho6; rw [← Ny101.out] at ho6)); have n0_ := Aside0.mk (Kd.R_lower ho6 (below_size d13b)); have n1_ := Aside0.mk (below_step d13b hb); clear HB; have HO103 := n0_; have HB := n1_; clear n0_ n1_; clear hb ho6; obtain ⟨Ao7, co7, eo7⟩ := Kd.R_slice HO103.out; subst eo7) | ((with_reducible refine gate_callee (f := 9) rfl ?_); refine goesL_ (some 5) rfl rfl Try.func9 (by kernel_rfl) rfl #[.int .i64 7, .int .i64 1, .int .i64 0, .slice Ao7 y101.length co7] rfl d13a ?_; (with_reducible refine (craft_Uplinked.calls k 7 1 0 _ _ y101 t104 t105 _ ?side1 ?side2 A1.out).mono ?_); (case side1 => exact C_go (Kd.R_reads' HO103.out).2.2); (case side2 => exact (Kd.R_reads' HO103.out).2.1); rintro e w8 ⟨v106, rfl, ho0, hb⟩; refine ⟨_, rfl, ?_⟩; have n0_ := Aside0.mk (Kd.R_below d13c hb); have n1_ := Aside0.mk (Kd.S_lower ho0 (below_size d13b)); have n2_ := Aside0.mk (below_step d13b hb); clear HO103; clear HB; have HO103 := n0_; have HO107 := n1_; have HB := n2_; clear n0_ n1_ n2_; (try clear hb); (try clear ho0); obtain ⟨Ao9, co9, eo9⟩ := Kd.S_slice HO107.out; subst eo9; have p108 : 0 ≤ (0 : Int) := (by omega); have q108 : 0 < (t104.length : Int) := of_decide_eq_true (by first | (with_reducible assumption) | assumption); obtain ⟨ad108, A108_0, c108_0, e108, hx108_0, hl108_0, hi108_0⟩ := at_L3 (Kd.S_reads' HO107.out).2.2 0 p108 q108; cases e108; obtain ⟨ce108, hce108, hMe108, hcc108⟩ := Kd.S_get HO107.out [] 0 p108 (by first | exact q108 | exact of_decide_eq_true (by first | (with_reducible assumption) | assumption) | (have e_ := (Kd.S_reads' HO107.out).1; omega)); obtain ⟨ve108_0, rfl, ge108_0⟩ := hMe108; have hv108_0 := hcc108 0 _ rfl; rw [Nat.add_zero, show ((Kd.slice 5 (Kd.int .u8))).sz = 1 from rfl, Nat.mul_one] at hv108_0; replace hv108_0 := Option.some.inj (hv108_0.symm.trans hx108_0); rw [hv108_0] at ge108_0; have HL108_0 := Aside0.mk (show Kd.R (Kd.int .u8) 5 _ _ _ _ (rd_L3 t104 0) from ge108_0); clear hv108_0 ge108_0; clear hcc108 hce108; have qi108 : (0 < t104.length) = True := eq_true (by omega); (try rw [show ((0 : Int)).toNat = 0 from rfl] at hx108_0); (try rw [Addr.add_zero'] at hx108_0); have HR108_0 := Aside0.mk hi108_0; have HC108_0 := Aside0.mk hl108_0; clear hi108_0 hl108_0; replace p108 := eq_true p108; replace q108 := eq_true q108))
     go_ret
     exact ⟨d13d, d13b⟩
   · rw [if_neg c3] at H
     have c3b0 : ((t104.length : Int) == 1) = false := beq_eq_false_iff_ne.mpr c3
     have c3b1 : ((t104.length : Int) != 1) = true := bne_iff_ne.mpr c3
     obtain rfl := Option.some.inj H
     go_enter Try.func13, Try.ntmps13
     go_wp2_with (first | ((with_reducible refine gate_dst (N := 4) rfl ?_); (try (refine gate_guard (by rfl) ?_; dsimp only)); refine Kd.R_lit Kd.string _ 9 ?hg (N := 4) ?hd (xs := ([(⟨#[99, 108, 101, 97, 110]⟩ : ByteArray)] : List ByteArray)) (inner := [.string (⟨#[99, 108, 101, 97, 110]⟩ : ByteArray)]) (ok := fun _ => True) (okp := fun _ => True) ?hr ?hp (fun _ hk => hk) trivial (Below.refl _ _) (Nat.le_refl _) (by simp) ?_; (case hd => rfl); (case hg => rfl); (case hr => first | (go_simp; done) | (go_simp; rfl)); (case hp => exact (Reps.one (show Kd.M Kd.string _ _ _ (⟨#[99, 108, 101, 97, 110]⟩ : ByteArray) [.string (⟨#[99, 108, 101, 97, 110]⟩ : ByteArray)] from rfl) (Reps.none _ _))); intro v102 w10 ho11 hb hg_ hnew_; clear hg_ hnew_; (first | rw [← Ny101.out] at ho11 | (simp only [Int.reduceToNat] at ho11; rw [← Ny101.out] at ho11)); have n0_ := Aside0.mk (Kd.R_lower ho11 (below_size d13b)); have n1_ := Aside0.mk (below_step d13b hb); clear HB; have HO103 := n0_; have HB := n1_; clear n0_ n1_; clear hb ho11; obtain ⟨Ao12, co12, eo12⟩ := Kd.R_slice HO103.out; subst eo12) | ((with_reducible refine gate_callee (f := 9) rfl ?_); refine goesL_ (some 5) rfl rfl Try.func9 (by kernel_rfl) rfl #[.int .i64 7, .int .i64 1, .int .i64 0, .slice Ao12 y101.length co12] rfl d13a ?_; (with_reducible refine (craft_Uplinked.calls k 7 1 0 _ _ y101 t104 t105 _ ?side1 ?side2 A1.out).mono ?_); (case side1 => exact C_go (Kd.R_reads' HO103.out).2.2); (case side2 => exact (Kd.R_reads' HO103.out).2.1); rintro e w13 ⟨v106, rfl, ho0, hb⟩; refine ⟨_, rfl, ?_⟩; have n0_ := Aside0.mk (Kd.R_below d13c hb); have n1_ := Aside0.mk (Kd.S_lower ho0 (below_size d13b)); have n2_ := Aside0.mk (below_step d13b hb); clear HO103; clear HB; have HO103 := n0_; have HO107 := n1_; have HB := n2_; clear n0_ n1_ n2_; (try clear hb); (try clear ho0); obtain ⟨Ao14, co14, eo14⟩ := Kd.S_slice HO107.out; subst eo14))
     go_ret
     exact ⟨d13d, d13b⟩
 · rw [if_neg c2] at H
   have c2b0 : (t105 == 0) = false := beq_eq_false_iff_ne.mpr c2
   have c2b1 : (t105 != 0) = true := bne_iff_ne.mpr c2
   obtain rfl := Option.some.inj H
   go_enter Try.func13, Try.ntmps13
   go_wp2_with (first | ((with_reducible refine gate_dst (N := 4) rfl ?_); (try (refine gate_guard (by rfl) ?_; dsimp only)); refine Kd.R_lit Kd.string _ 9 ?hg (N := 4) ?hd (xs := ([(⟨#[99, 108, 101, 97, 110]⟩ : ByteArray)] : List ByteArray)) (inner := [.string (⟨#[99, 108, 101, 97, 110]⟩ : ByteArray)]) (ok := fun _ => True) (okp := fun _ => True) ?hr ?hp (fun _ hk => hk) trivial (Below.refl _ _) (Nat.le_refl _) (by simp) ?_; (case hd => rfl); (case hg => rfl); (case hr => first | (go_simp; done) | (go_simp; rfl)); (case hp => exact (Reps.one (show Kd.M Kd.string _ _ _ (⟨#[99, 108, 101, 97, 110]⟩ : ByteArray) [.string (⟨#[99, 108, 101, 97, 110]⟩ : ByteArray)] from rfl) (Reps.none _ _))); intro v102 w15 ho16 hb hg_ hnew_; clear hg_ hnew_; (first | rw [← Ny101.out] at ho16 | (simp only [Int.reduceToNat] at ho16; rw [← Ny101.out] at ho16)); have n0_ := Aside0.mk (Kd.R_lower ho16 (below_size d13b)); have n1_ := Aside0.mk (below_step d13b hb); clear HB; have HO103 := n0_; have HB := n1_; clear n0_ n1_; clear hb ho16; obtain ⟨Ao17, co17, eo17⟩ := Kd.R_slice HO103.out; subst eo17) | ((with_reducible refine gate_callee (f := 9) rfl ?_); refine goesL_ (some 5) rfl rfl Try.func9 (by kernel_rfl) rfl #[.int .i64 7, .int .i64 1, .int .i64 0, .slice Ao17 y101.length co17] rfl d13a ?_; (with_reducible refine (craft_Uplinked.calls k 7 1 0 _ _ y101 t104 t105 _ ?side1 ?side2 A1.out).mono ?_); (case side1 => exact C_go (Kd.R_reads' HO103.out).2.2); (case side2 => exact (Kd.R_reads' HO103.out).2.1); rintro e w18 ⟨v106, rfl, ho0, hb⟩; refine ⟨_, rfl, ?_⟩; have n0_ := Aside0.mk (Kd.R_below d13c hb); have n1_ := Aside0.mk (Kd.S_lower ho0 (below_size d13b)); have n2_ := Aside0.mk (below_step d13b hb); clear HO103; clear HB; have HO103 := n0_; have HO107 := n1_; have HB := n2_; clear n0_ n1_ n2_; (try clear hb); (try clear ho0)))
   go_ret
   exact ⟨d13d, d13b⟩
end Go.Proofs.Ythmdnmfocnchkaa.Q
