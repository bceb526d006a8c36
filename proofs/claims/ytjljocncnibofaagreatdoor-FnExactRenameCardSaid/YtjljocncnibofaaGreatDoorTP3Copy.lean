import Derived.Test.YtjljocncnibofaaGreatDoorTP0
import Derived.Test.YtjljocncnibofaaGreatDoorTP1
set_option linter.unusedVariables false
set_option linter.unusedSimpArgs false
namespace TT
open Go
theorem copy_spec : ∀ n : GNode, n.sz ≤ 1048576 → spec_l5Copy n = some n := by
 refine GNode.ind' fun n ih hs => ?_
 rw [GNode.sz_eq] at hs
 have h := copy_loop (fun out i => spec_l5All_l8 n.Kids out i) n.Kids spec_l5Copy 144 (fun out i => by rw [spec_l5All_l8]) (by omega) (by omega) (by omega) (fun x hx => ih x hx (by have := szs_mem GNode.sz hx; omega))
 rw [spec_l5Copy, spec_l5All, h, room_ok (by omega) (by omega) (by omega), room_ok (by omega) (by omega) (by omega)]
 simp only [some_bnd, List.nil_append, eta_GNode]
end TT
namespace TT
open Go
theorem copy_impl : ∀ n : GNode, n.sz ≤ 1048576 → impl_cloneNode n = some n := by
 refine GNode.ind' fun n ih hs => ?_
 rw [GNode.sz_eq] at hs
 have h := copy_loop (fun out i => impl_cloneNodes_l8 out n.Kids i) n.Kids impl_cloneNode 144 (fun out i => by rw [impl_cloneNodes_l8]) (by omega) (by omega) (by omega) (fun x hx => ih x hx (by have := szs_mem GNode.sz hx; omega))
 rw [impl_cloneNode, slices_Clone_Decl, slices_Clone_Attr, impl_cloneNodes, h, room_ok (by omega) (by omega) (by omega), room_ok (by omega) (by omega) (by omega)]
 simp only [some_bnd, eta_GNode]
end TT
