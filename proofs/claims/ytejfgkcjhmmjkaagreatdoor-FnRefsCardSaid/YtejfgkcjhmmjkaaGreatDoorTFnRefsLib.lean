import Derived.Test.YtejfgkcjhmmjkaaGreatDoorTKK
import Derived.Test.YtejfgkcjhmmjkaaGreatDoorTHX4
import Derived.Test.YtejfgkcjhmmjkaaGreatDoorTD25
import Derived.Test.YtejfgkcjhmmjkaaGreatDoorTE
import Derived.KernelRfl
import Derived.Test.YtejfgkcjhmmjkaaGreatDoorTSH
set_option maxRecDepth 100000
namespace TT
open Go Go.Proofs
abbrev GG : Gt := (Gt.and (u8G 1 2) (lenG 0))
theorem soundL : ∀ p ∈ FTA.lb, Sound1 GG Tryz.prog p.1 p.2 := fun p hp => by
 simp only [FTA, List.mem_cons, List.not_mem_nil, or_false] at hp
 rcases hp with rfl | rfl | rfl
 ·exact x_replace_sound (fun B w h => h.2.2) (by kernel_rfl) Tryz.strings_ReplaceAll
 ·exact x_cut_sound (fun B w h => h.2.2) (by kernel_rfl) Tryz.strings_Cut
 ·exact x_decode_soundG (fun B w h => h.1.2.2) (by kernel_rfl) Tryz.utf8_DecodeRuneInString
end TT
