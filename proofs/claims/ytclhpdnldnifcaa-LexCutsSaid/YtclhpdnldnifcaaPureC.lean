/- LexCuts: the plain law: the reference cuts as the cutter does. -/
import Derived.Test.YtclhpdnldnifcaaLCuts
import Derived.Test.YtclhpdnldnifcaaPureR4
import Derived.Test.YtclhpdnldnifcaaPureV
import Derived.Test.YtclhpdnldnifcaaPureT
namespace Go.Proofs.Ytclhpdnldnifcaa.K
open Go.RowKit Go.Proofs.YtclhpdnldnifcaaW.PrintWords Go.Proofs.YtclhpdnldnifcaaW.PrintLast Go.Proofs.YtclhpdnldnifcaaW.PrintMore
theorem LexCuts : outriderlaw03_LexCuts.Pure := by
  intro s hs
  obtain ⟨k, h1, h2⟩ := together (fun k => outriderref03_Cut.mono s k) (fun k => outriderlaw03_alive.mono k) (rcut_f s) alive_ok
  refine ⟨k, ?_⟩
  have h3 : outriderref03_Same.f (cutP s).1 (cutP s).1 true = some true := by
    show some (sameGo true (cutP s).1 (cutP s).1) = some true
    rw [same_self]
  unfold outriderlaw03_LexCuts.f
  rw [cut_f, Option.bind_some, h1, Option.bind_some, if_pos rfl, if_pos rfl, h3, Option.bind_some, if_pos rfl, h2]
  rfl
end Go.Proofs.Ytclhpdnldnifcaa.K
