import Derived.Test.YtabghncdppfllaaTKN
import Derived.Test.YtabghncdppfllaaTD26
import Derived.Test.YtabghncdppfllaaProg
import Derived.KernelRfl
namespace TT
open Go Go.Proofs
set_option maxRecDepth 100000
theorem ag6 : agF Try.prog 6 k6 = true := by kernel_rfl
theorem ag26 : agF Try.prog 26 k26 = true := by kernel_rfl
theorem ag27 : agF Try.prog 27 k27 = true := by kernel_rfl
theorem ag28 : agF Try.prog 28 k28 = true := by kernel_rfl
theorem ag29 : agF Try.prog 29 k29 = true := by kernel_rfl
theorem ag30 : agF Try.prog 30 k30 = true := by kernel_rfl
theorem ag37 : agF Try.prog 37 k37 = true := by kernel_rfl
theorem ag39 : agF Try.prog 39 k39 = true := by kernel_rfl
theorem ag41 : agF Try.prog 41 k41 = true := by kernel_rfl
theorem ag44 : agF Try.prog 44 k44 = true := by kernel_rfl
theorem ag67 : agF Try.prog 67 k67 = true := by kernel_rfl
theorem ag68 : agF Try.prog 68 k68 = true := by kernel_rfl
theorem ag69 : agF Try.prog 69 k69 = true := by kernel_rfl
theorem ag70 : agF Try.prog 70 k70 = true := by kernel_rfl
theorem ag71 : agF Try.prog 71 k71 = true := by kernel_rfl
theorem ag80 : agF Try.prog 80 k80 = true := by kernel_rfl
theorem ag98 : agF Try.prog 98 k98 = true := by kernel_rfl
theorem ag99 : agF Try.prog 99 k99 = true := by kernel_rfl
theorem ag100 : agF Try.prog 100 k100 = true := by kernel_rfl
theorem ag101 : agF Try.prog 101 k101 = true := by kernel_rfl
theorem ag102 : agF Try.prog 102 k102 = true := by kernel_rfl
def FTN : FTab
  | 6 => some k6
  | 26 => some k26
  | 27 => some k27
  | 28 => some k28
  | 29 => some k29
  | 30 => some k30
  | 37 => some k37
  | 39 => some k39
  | 41 => some k41
  | 44 => some k44
  | 67 => some k67
  | 68 => some k68
  | 69 => some k69
  | 70 => some k70
  | 71 => some k71
  | 80 => some k80
  | 98 => some k98
  | 99 => some k99
  | 100 => some k100
  | 101 => some k101
  | 102 => some k102
  | _ => none
theorem FTN_ag (f : FuncId) (fn : F) (h : FTN f = some fn) : agF Try.prog f fn = true := by
  unfold FTN at h
  split at h <;> cases h
  · exact ag6
  · exact ag26
  · exact ag27
  · exact ag28
  · exact ag29
  · exact ag30
  · exact ag37
  · exact ag39
  · exact ag41
  · exact ag44
  · exact ag67
  · exact ag68
  · exact ag69
  · exact ag70
  · exact ag71
  · exact ag80
  · exact ag98
  · exact ag99
  · exact ag100
  · exact ag101
  · exact ag102
end TT
