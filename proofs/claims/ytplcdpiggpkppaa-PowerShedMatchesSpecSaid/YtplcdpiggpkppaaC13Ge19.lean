-- Made by wip/tools/claimp.py of this session's texts; Lean checks it.
import Derived.Test.YtplcdpiggpkppaaC13Q0
import Derived.Test.YtplcdpiggpkppaaC13Ge13
import Derived.Test.YtplcdpiggpkppaaC13Ge15
import Derived.Test.YtplcdpiggpkppaaC13Ge8
import Derived.Test.YtplcdpiggpkppaaC13Ge9
namespace Go.Proofs.Ytplcdpiggpkppaa.Q
open Go.RowKit Go.Proofs.YtplcdpiggpkppaaW.PrintWords Go.Proofs.YtplcdpiggpkppaaW.PrintLast Go.Proofs.YtplcdpiggpkppaaW.PrintMore
attribute [local go_sem] max2_int min2_int max_two min_two max_three min_three max_four min_four
open Go.Proofs.Ytplcdpiggpkppaa.Base
attribute [local go_sem high] str_leq str_gtr str_geq
set_option linter.unusedVariables false
set_option linter.unusedSimpArgs false
def api_Use_80.f (l0 : List S47) : Option (List S47) := if l0.length < 4398046511104 then some l0 else none
theorem api_Use_80.info : (Try.prog.info? 47).map (fun i => (i.zero, i.size, i.bytes)) = some (some (.agg #[.string ByteArray.empty, .int .i64 0, .int .i64 0]), 3, 32) := by kernel_rfl
set_option maxHeartbeats 8000000 in
set_option maxRecDepth 100000 in
theorem api_Use_80.calls (A0 : Option Addr) (c0 : Nat) (l0 : List S47) (r : List S47) (w : World) (hr0 : Kd.C k47 w A0 l0.length l0) (hc0 : l0.length ≤ c0) (h : api_Use_80.f l0 = some r) :
 Calls Try.prog 80 #[.slice A0 l0.length c0] w fun e w' => ∃ v0_ : Value, e = .returned (v0_) ∧ Kd.R k47 47 w' w.heap.size (fun _ => True) v0_ r ∧ Below w.heap.size w w' := by
 unfold api_Use_80.f at h
 have hlt : l0.length < 4398046511104 ∧ l0 = r := by
  split at h
  · rename_i hl
    exact ⟨hl, Option.some.inj h⟩
  · cases h
 obtain ⟨hlt, rfl⟩ := hlt
 have HL := Aside0.mk hlt
 have HR := Aside0.mk hr0
 clear h hlt hr0 hc0
 have q22 : ∀ (w : World) (a : Option Addr) (n c n' c' : Nat), (binOp .eql 26 (.slice a n c) (.slice none n' c')).run Try.prog w = .ok (.bool a.isNone) w := fun w a n c n' c' => Lib.run_eql_slice_nil w _ _ a n c n' c' Try.underlying26
 cases A0 with
 | none =>
  obtain rfl : l0 = [] := by
   cases l0 with
   | nil => rfl
   | cons x l =>
    obtain ⟨ad, e, _⟩ := HR.out.2.2 (Nat.succ_pos _)
    cases e
  go_enter Try.func80, Try.ntmps80
  go_wp2
  go_ret
  exact ⟨_, rfl, Kd.R_nil _ _ _ _ _, Below.refl _ _⟩
 | some ad =>
  have HO : k47.R 47 (w.alloc (.cells #[] 47)) w.heap.size (fun _ => True) (.slice (some ⟨w.heap.size, 0, none⟩) 0 0) ([] : List S47) :=
   ⟨fun _ _ => trivial, [], World.ownsRow_made w #[] 0 (Nat.le_refl _) (Nat.zero_le _) rfl, Reps.none _ _⟩
  have HO1 := Aside0.mk HO
  have HB := Aside0.mk (below_alloc (Below.refl w.heap.size w) (.cells #[] 47))
  clear HO
  go_enter Try.func80, Try.ntmps80
  go_wp2_with (at_builtin; refine Kd.R_append_rows k47 w.heap.size rfl _ _ 26 47 (.agg #[.string ByteArray.empty, .int .i64 0, .int .i64 0]) 32 rfl Try.underlying26 api_Use_80.info rfl (by decide) (by decide) _ [] l0 (some ad) l0.length _ (fun _ => True) (fun _ => False) rfl rfl HO1.out (Kd.C_alloc HR.out _) (fun _ _ h => h) (fun _ h => h.elim) (fun _ _ => trivial) HB.out (by simp) (by have := HL.out; simp; omega) ?_; intro v1 w1 ho1 hb1 hg1 _)
  go_wp2
  go_ret
  exact ⟨v1, rfl, ho1, hb1⟩
end Go.Proofs.Ytplcdpiggpkppaa.Q
