/- ref03.Same of events and themselves. -/
import Derived.Test.YtjjmedgibcffhaaRBr
import Derived.Test.YtjjmedgibcffhaaRSame
namespace Go.Proofs.Ytjjmedgibcffhaa
open Go.RowKit M
theorem same26 (xs : List EventD) (hok : SlOk EventOk 40 xs) : PureC Try.prog 26 [.d (evs xs), .d (evs xs)] (.d (.bool true)) := by
  intro S g w vals h1 h2 h3 h4
  obtain ⟨v, u, rfl, hv, hu⟩ := two_args h3 h4
  obtain ⟨A, c, rfl, hs, _⟩ := conv_events hv hok
  obtain ⟨B, d, rfl, ht, _⟩ := conv_events hu hok
  refine (sameEvents_calls xs _ _ rfl rfl g.F g.F w A B c d hs ht).mono ?_
  rintro e w' ⟨rfl, n, rfl⟩
  exact callM_new h1 h2 (below_drewN (Below.refl _ _) n) (.d (.bool _))
end Go.Proofs.Ytjjmedgibcffhaa
