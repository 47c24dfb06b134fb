/- Plain lemmas: what both programs read of a window. -/
import Derived.Test.YtaoffejflichjaaSm
import Derived.Test.YtaoffejflichjaaPx5
import Derived.Test.YtaoffejflichjaaPx6
namespace Go.Proofs.Ytaoffejflichjaa.P
open Go.RowKit Go.Proofs.YtaoffejflichjaaW.PrintWords Go.Proofs.YtaoffejflichjaaW.PrintLast Go.Proofs.YtaoffejflichjaaW.PrintMore
set_option linter.unusedVariables false
theorem seen_eq {m : List (List Int)} {a s l c : Int} (hok : memOk m = true) (h : winOn m a s l c = true) : impl_Memory_seen.f m a s l c = some (seen m a s l) := by
  obtain ⟨_, _, h0, h1, h2, h3, h4, h5, h6⟩ := win_sm hok h
  unfold impl_Memory_seen.f
  have e : rd_L1 m a = m.getD a.toNat [] := rfl
  rw [e, wrap_in (x := s + l) (by omega) (by omega), if_pos h4.1, if_pos h4.2, if_pos h0, if_pos (by omega), if_pos (by omega), List.drop_take]
  unfold seen
  rw [show (s + l).toNat - s.toNat = l.toNat by omega]
theorem at_eq {m : List (List Int)} {a s l c i : Int} (hok : memOk m = true) (h : winOn m a s l c = true) (hi : 0 ≤ i) (hl : i < l) : spec_l2At.f m a s l c i = some (rd (seen m a s l) i) := by
  obtain ⟨_, _, h0, h1, h2, h3, h4, h5, h6⟩ := win_sm hok h
  unfold spec_l2At.f
  have e : rd_L1 m a = m.getD a.toNat [] := rfl
  rw [e, wrap_in (x := s + i) (by omega) (by omega), if_pos h4.1, if_pos h4.2, if_pos (by omega), if_pos (by omega), seen_rd hi hl h0]
end Go.Proofs.Ytaoffejflichjaa.P
