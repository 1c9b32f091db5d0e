/- Exclude, CheckBooking and Total answer as the reference does, with all errors: for every list of passes, every gap and every booking. -/
import Derived.Test.YtbngmblgkkdhpaaBookR
import Derived.Test.YtbngmblgkkdhpaaStBookingsMatchSpec
-- LET P = perigee/api.Pass
set_option linter.unusedVariables false
set_option linter.unusedSimpArgs false
namespace Go.Proofs.Ytbngmblgkkdhpaa.Q
open Go.RowKit Go.Proofs.YtbngmblgkkdhpaaW.PrintWords Go.Proofs.YtbngmblgkkdhpaaW.PrintLast Go.Proofs.YtbngmblgkkdhpaaW.PrintMore Go.Proofs.Ytbngmblgkkdhpaa.Base

theorem BookingsMatchSpec_pure : perigeelaw10_BookingsMatchSpec.Pure := by
  intro l gap b hl _ hb
  have hw : ∀ x ∈ l, x.f0.size ≤ 140737488351232 := fun x hx => (hl.2 x hx).1
  have hbl : b.length ≤ 1152921504606846976 := by have := hb.1; omega
  refine Ev.rounds ?_
  simp only [perigeelaw10_BookingsMatchSpec.f]
  have aw := Ev.bind (f := fun _ t => some t) perigeelaw10_awake_ev (Ev.now true)
  refine Ev.bind (contact_Exclude_ev l gap) ?_
  refine Ev.bind (perigeeref10_Exclude_ev l gap hw) ?_
  refine Ev.bind (contact_Total_ev l b hbl) ?_
  refine Ev.bind (perigeeref10_Total_ev l b hw hbl) ?_
  refine Ev.bind (slices_EqualFunc_ev _ excludeV_small.1 excludeV_small.2) ?_
  simp only [if_true]
  refine Ev.bind (contact_CheckBooking_ev l gap b hbl) ?_
  refine Ev.bind (perigeeref10_CheckBooking_ev l gap b hw hbl) ?_
  simp only [if_true]
  exact aw
end Go.Proofs.Ytbngmblgkkdhpaa.Q
namespace Go.Proofs.Ytbngmblgkkdhpaa.Pure
theorem BookingsMatchSpec : Q.perigeelaw10_BookingsMatchSpec.Pure := Q.BookingsMatchSpec_pure
end Go.Proofs.Ytbngmblgkkdhpaa.Pure
