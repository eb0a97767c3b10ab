/- FirstDesk: the program's first desk is the reference's, marks hold, for the only input there is. -/
import Derived.Test.YtpnkkojaclmahaaPFnExactFirstDeskx2
namespace Go.Proofs.Ytpnkkojaclmahaa.Pure
open Go.RowKit Go.Proofs.Ytpnkkojaclmahaa.PFnExactFirstDesk Go.Proofs.YtpnkkojaclmahaaW.PrintWords Go.Proofs.YtpnkkojaclmahaaW.PrintLast

/-- YOURS: ∃ k, laws_FnExactFirstDesk.f k  = some true
What it reaches (each with k first where it has rounds; `.mono`: more rounds tell the same; `.l0`, ..: its loops, with `.mono_l`): spec_FirstDesk.f, impl_firstDesk.f, impl_FirstDesk.f, laws_eqStreet.f, laws_eqIntS.f, laws_eqDesk.f, laws_markIntS.f, laws_markDesk.f, laws_heldIntS.f, laws_heldDesk.f, laws_FnExactFirstDesk.f -/
theorem FnExactFirstDesk : laws_FnExactFirstDesk.Pure := by
  exact ⟨20, by decide +kernel⟩

end Go.Proofs.Ytpnkkojaclmahaa.Pure
