import Derived.Shelf.Small.Strs
import Derived.Shelf.Strings.Search3
import Derived.Shelf.LaysM
import Derived.Shelf.Strings.Shaped
import Derived.Shelf.Strings.Fold
import Derived.Shelf.Unicode.DecodeAny
import Derived.Shelf.Spec.SlicesGrow
import Derived.Test.YtjljocncnibofaaGreatDoorProg
namespace Go.Proofs
open Go.Shelf
def Tryz.lays106_ren : Go.Shelf.Ren := ⟨fun | 106 => 75 | 213 => 101 | 265 => 122 | n => n, fun | 9 => 9 | 3 => 3 | n => n, fun | n => n⟩
theorem Tryz.lays106 : Go.Proofs.Lays.n106 Tryz.prog Tryz.lays106_ren := {
 mixed := by kernel_rfl
 f106 := Tryz.func75.trans (congrArg some (by kernel_rfl))
 f213 := Tryz.func101.trans (congrArg some (by kernel_rfl))
 f265 := Tryz.func122.trans (congrArg some (by kernel_rfl))
 t3 := Tryz.underlying3
 a3 := Tryz.isAgg3
 z3 := Tryz.sizeOf3
 v3 := Tryz.zeroValue3
 t9 := Tryz.underlying9
 a9 := Tryz.isAgg9
 z9 := Tryz.sizeOf9
 v9 := Tryz.zeroValue9 }
open Go.RowKit in
theorem Tryz.strings_Compare (a b : ByteArray) (w : World) :
  Calls Tryz.prog 75 #[.string a, .string b] w fun e w' => e = .returned (.int .i64 (Lib.compareBytes a.data.toList b.data.toList)) ∧ w' = w := Any.strings_Compare Tryz.lays106 a b w
def Tryz.lays144_ren : Go.Shelf.Ren := ⟨fun | 144 => 124 | 143 => 136 | 219 => 143 | 217 => 147 | 225 => 148 | 224 => 149 | 267 => 150 | 266 => 151 | 314 => 152 | n => n, fun | 9 => 9 | 4 => 4 | 3 => 3 | 5 => 5 | 46 => 111 | 146 => 144 | 51 => 139 | n => n, fun | 1 => 0 | n => n⟩
theorem Tryz.lays144 : Go.Proofs.Lays.n144 Tryz.prog Tryz.lays144_ren := {
 mixed := by kernel_rfl
 f143 := Tryz.func136.trans (congrArg some (by kernel_rfl))
 f144 := Tryz.func124.trans (congrArg some (by kernel_rfl))
 f217 := Tryz.func147.trans (congrArg some (by kernel_rfl))
 f219 := Tryz.func143.trans (congrArg some (by kernel_rfl))
 f224 := Tryz.func149.trans (congrArg some (by kernel_rfl))
 f225 := Tryz.func148.trans (congrArg some (by kernel_rfl))
 f266 := Tryz.func151.trans (congrArg some (by kernel_rfl))
 f267 := Tryz.func150.trans (congrArg some (by kernel_rfl))
 f314 := Tryz.func152.trans (congrArg some (by kernel_rfl))
 t3 := Tryz.underlying3
 a3 := Tryz.isAgg3
 z3 := Tryz.sizeOf3
 v3 := Tryz.zeroValue3
 t4 := Tryz.underlying4
 a4 := Tryz.isAgg4
 z4 := Tryz.sizeOf4
 v4 := Tryz.zeroValue4
 t5 := Tryz.underlying5
 a5 := Tryz.isAgg5
 z5 := Tryz.sizeOf5
 v5 := Tryz.zeroValue5
 t9 := Tryz.underlying9
 a9 := Tryz.isAgg9
 z9 := Tryz.sizeOf9
 v9 := Tryz.zeroValue9
 t46 := Tryz.underlying111
 a46 := Tryz.isAgg111
 z46 := Tryz.sizeOf111
 v46 := Tryz.zeroValue111
 t51 := Tryz.underlying139
 a51 := Tryz.isAgg139
 z51 := Tryz.sizeOf139
 v51 := Tryz.zeroValue139
 t146 := Tryz.underlying144
 a146 := Tryz.isAgg144
 z146 := Tryz.sizeOf144
 v146 := Tryz.zeroValue144
 g1 := by kernel_rfl }
open Go.RowKit Go.Lib in
theorem Tryz.strings_Contains (s sub : ByteArray) (m : Int) (w : World) (hs : s.size < 4294967281) (hm : w.cell? ⟨0, 0, none⟩ = some (.int .i64 m)) :
  Calls Tryz.prog 124 #[.string s, .string sub] w fun e w' => e = .returned (.bool (Lib.contains s.data.toList sub.data.toList)) ∧ w' = w := Any.strings_Contains Tryz.lays144 s sub m w hs hm
def Tryz.laysM144_ren : Go.Shelf.Ren := ⟨fun | 144 => 124 | 143 => 136 | 219 => 143 | 217 => 147 | 225 => 148 | 224 => 149 | 267 => 150 | 266 => 151 | 314 => 152 | n => n, fun | 9 => 9 | 4 => 4 | 3 => 3 | 5 => 5 | 46 => 111 | 146 => 144 | 51 => 139 | n => n, fun | 1 => 0 | n => n⟩
theorem Tryz.laysM144 : Go.Proofs.LaysM.n144 Tryz.prog Tryz.laysM144_ren := {
 mixed := by kernel_rfl
 f143 := Tryz.func136.trans (congrArg some (by kernel_rfl))
 f144 := Tryz.func124.trans (congrArg some (by kernel_rfl))
 f217 := Tryz.func147.trans (congrArg some (by kernel_rfl))
 f219 := Tryz.func143.trans (congrArg some (by kernel_rfl))
 f224 := Tryz.func149.trans (congrArg some (by kernel_rfl))
 f225 := Tryz.func148.trans (congrArg some (by kernel_rfl))
 f266 := Tryz.func151.trans (congrArg some (by kernel_rfl))
 f267 := Tryz.func150.trans (congrArg some (by kernel_rfl))
 f314 := Tryz.func152.trans (congrArg some (by kernel_rfl))
 t3 := Tryz.underlying3
 a3 := Tryz.isAgg3
 z3 := Tryz.sizeOf3
 v3 := Tryz.zeroValue3
 t4 := Tryz.underlying4
 a4 := Tryz.isAgg4
 z4 := Tryz.sizeOf4
 v4 := Tryz.zeroValue4
 t5 := Tryz.underlying5
 a5 := Tryz.isAgg5
 z5 := Tryz.sizeOf5
 v5 := Tryz.zeroValue5
 t9 := Tryz.underlying9
 a9 := Tryz.isAgg9
 z9 := Tryz.sizeOf9
 v9 := Tryz.zeroValue9
 t46 := Tryz.underlying111
 a46 := Tryz.isAgg111
 z46 := Tryz.sizeOf111
 v46 := Tryz.zeroValue111
 t51 := Tryz.underlying139
 a51 := Tryz.isAgg139
 z51 := Tryz.sizeOf139
 v51 := Tryz.zeroValue139
 t146 := Tryz.underlying144
 a146 := Tryz.isAgg144
 z146 := Tryz.sizeOf144
 v146 := Tryz.zeroValue144
 g1 := by kernel_rfl
 i3 := by kernel_rfl
 i4 := by kernel_rfl
 i5 := by kernel_rfl
 i9 := by kernel_rfl
 i46 := by kernel_rfl
 i51 := by kernel_rfl
 i146 := by kernel_rfl
 m1 := by kernel_rfl
 s1_3 := fun w h => Go.Proofs.cell_of_shapedOpen_int (zero := #[.int .i64 0]) (t := 3) h (of_decide_eq_true (by kernel_rfl)) (by kernel_rfl) rfl (by kernel_rfl) (by kernel_rfl) Tryz.underlying3 }
def Tryz.lays164_ren : Go.Shelf.Ren := ⟨fun | 164 => 126 | 197 => 129 | 239 => 138 | 260 => 139 | 274 => 144 | 275 => 145 | n => n, fun | 9 => 9 | 4 => 4 | 3 => 3 | 5 => 5 | 0 => 0 | 21 => 21 | 105 => 112 | 156 => 124 | 49 => 123 | 157 => 125 | 46 => 111 | 159 => 127 | 162 => 130 | 160 => 128 | 119 => 132 | 139 => 135 | 138 => 134 | 208 => 143 | 51 => 139 | 206 => 141 | n => n, fun | 11 => 1 | 12 => 2 | 13 => 3 | 3 => 4 | 4 => 5 | n => n⟩
theorem Tryz.lays164 : Go.Proofs.Lays.n164 Tryz.prog Tryz.lays164_ren := {
 mixed := by kernel_rfl
 f164 := Tryz.func126.trans (congrArg some (by kernel_rfl))
 f197 := Tryz.func129.trans (congrArg some (by kernel_rfl))
 f239 := Tryz.func138.trans (congrArg some (by kernel_rfl))
 f260 := Tryz.func139.trans (congrArg some (by kernel_rfl))
 f274 := Tryz.func144.trans (congrArg some (by kernel_rfl))
 f275 := Tryz.func145.trans (congrArg some (by kernel_rfl))
 t0 := Tryz.underlying0
 a0 := Tryz.isAgg0
 z0 := Tryz.sizeOf0
 v0 := Tryz.zeroValue0
 t3 := Tryz.underlying3
 a3 := Tryz.isAgg3
 z3 := Tryz.sizeOf3
 v3 := Tryz.zeroValue3
 t4 := Tryz.underlying4
 a4 := Tryz.isAgg4
 z4 := Tryz.sizeOf4
 v4 := Tryz.zeroValue4
 t5 := Tryz.underlying5
 a5 := Tryz.isAgg5
 z5 := Tryz.sizeOf5
 v5 := Tryz.zeroValue5
 t9 := Tryz.underlying9
 a9 := Tryz.isAgg9
 z9 := Tryz.sizeOf9
 v9 := Tryz.zeroValue9
 t21 := Tryz.underlying21
 a21 := Tryz.isAgg21
 z21 := Tryz.sizeOf21
 v21 := Tryz.zeroValue21
 t46 := Tryz.underlying111
 a46 := Tryz.isAgg111
 z46 := Tryz.sizeOf111
 v46 := Tryz.zeroValue111
 t49 := Tryz.underlying123
 a49 := Tryz.isAgg123
 z49 := Tryz.sizeOf123
 v49 := Tryz.zeroValue123
 t51 := Tryz.underlying139
 a51 := Tryz.isAgg139
 z51 := Tryz.sizeOf139
 v51 := Tryz.zeroValue139
 t105 := Tryz.underlying112
 a105 := Tryz.isAgg112
 z105 := Tryz.sizeOf112
 v105 := Tryz.zeroValue112
 t119 := Tryz.underlying132
 a119 := Tryz.isAgg132
 z119 := Tryz.sizeOf132
 t138 := Tryz.underlying134
 a138 := Tryz.isAgg134
 z138 := Tryz.sizeOf134
 v138 := Tryz.zeroValue134
 t139 := Tryz.underlying135
 a139 := Tryz.isAgg135
 z139 := Tryz.sizeOf135
 v139 := Tryz.zeroValue135
 t156 := Tryz.underlying124
 a156 := Tryz.isAgg124
 z156 := Tryz.sizeOf124
 t157 := Tryz.underlying125
 a157 := Tryz.isAgg125
 z157 := Tryz.sizeOf125
 v157 := Tryz.zeroValue125
 t159 := Tryz.underlying127
 a159 := Tryz.isAgg127
 z159 := Tryz.sizeOf127
 v159 := Tryz.zeroValue127
 t160 := Tryz.underlying128
 a160 := Tryz.isAgg128
 z160 := Tryz.sizeOf128
 v160 := Tryz.zeroValue128
 t162 := Tryz.underlying130
 a162 := Tryz.isAgg130
 z162 := Tryz.sizeOf130
 v162 := Tryz.zeroValue130
 t206 := Tryz.underlying141
 a206 := Tryz.isAgg141
 z206 := Tryz.sizeOf141
 v206 := Tryz.zeroValue141
 t208 := Tryz.underlying143
 a208 := Tryz.isAgg143
 z208 := Tryz.sizeOf143
 v208 := Tryz.zeroValue143
 g3 := by kernel_rfl
 g4 := by kernel_rfl
 g11 := by kernel_rfl
 g12 := by kernel_rfl
 g13 := by kernel_rfl }
open Go.RowKit Go.Lib in
theorem Tryz.strings_EqualFold (s t : ByteArray) (w : World) (hs : s.size < 4294967281) (has : ∀ (j : Nat) b, s.data.toList[j]? = some b → b.toNat < 128) (hat : ∀ (j : Nat) b, t.data.toList[j]? = some b → b.toNat < 128) :
  Calls Tryz.prog 126 #[.string s, .string t] w fun e w' => e = .returned (.bool (Lib.equalFold s.data.toList t.data.toList)) ∧ w' = w := Any.strings_EqualFold Tryz.lays164 s t w hs has hat
def Tryz.lays197_ren : Go.Shelf.Ren := ⟨fun | 197 => 129 | 260 => 139 | n => n, fun | 9 => 9 | 21 => 21 | 3 => 3 | 4 => 4 | 5 => 5 | 105 => 112 | 119 => 132 | 0 => 0 | 46 => 111 | 139 => 135 | 138 => 134 | n => n, fun | 3 => 4 | 4 => 5 | n => n⟩
theorem Tryz.lays197 : Go.Proofs.Lays.n197 Tryz.prog Tryz.lays197_ren := {
 mixed := by kernel_rfl
 f197 := Tryz.func129.trans (congrArg some (by kernel_rfl))
 f260 := Tryz.func139.trans (congrArg some (by kernel_rfl))
 t0 := Tryz.underlying0
 a0 := Tryz.isAgg0
 z0 := Tryz.sizeOf0
 v0 := Tryz.zeroValue0
 t3 := Tryz.underlying3
 a3 := Tryz.isAgg3
 z3 := Tryz.sizeOf3
 v3 := Tryz.zeroValue3
 t4 := Tryz.underlying4
 a4 := Tryz.isAgg4
 z4 := Tryz.sizeOf4
 v4 := Tryz.zeroValue4
 t5 := Tryz.underlying5
 a5 := Tryz.isAgg5
 z5 := Tryz.sizeOf5
 v5 := Tryz.zeroValue5
 t9 := Tryz.underlying9
 a9 := Tryz.isAgg9
 z9 := Tryz.sizeOf9
 v9 := Tryz.zeroValue9
 t21 := Tryz.underlying21
 a21 := Tryz.isAgg21
 z21 := Tryz.sizeOf21
 v21 := Tryz.zeroValue21
 t46 := Tryz.underlying111
 a46 := Tryz.isAgg111
 z46 := Tryz.sizeOf111
 v46 := Tryz.zeroValue111
 t105 := Tryz.underlying112
 a105 := Tryz.isAgg112
 z105 := Tryz.sizeOf112
 v105 := Tryz.zeroValue112
 t119 := Tryz.underlying132
 a119 := Tryz.isAgg132
 z119 := Tryz.sizeOf132
 t138 := Tryz.underlying134
 a138 := Tryz.isAgg134
 z138 := Tryz.sizeOf134
 v138 := Tryz.zeroValue134
 t139 := Tryz.underlying135
 a139 := Tryz.isAgg135
 z139 := Tryz.sizeOf135
 v139 := Tryz.zeroValue135
 g3 := by kernel_rfl
 g4 := by kernel_rfl }
open Go.RowKit Go.Lib in
theorem Tryz.utf8_DecodeRuneInString (s : ByteArray) (w : World) (hT : Lib.Utf8Tabs 4 5 w) :
  Calls Tryz.prog 129 #[.string s] w fun e w' => e = .returned (.tuple #[.int .i32 (Lib.decodeGo s).1, .int .i64 (Lib.decodeGo s).2]) ∧ Below w.heap.size w w' := Any.utf8_DecodeRuneInString Tryz.lays197 s w hT
def Tryz.growDecl_ren : Go.Shelf.Ren := ⟨fun | 4 => 97 | n => n, fun | 22 => 29 | 25 => 52 | 3 => 3 | 4 => 4 | 9 => 9 | 20 => 20 | 0 => 0 | n => n, fun | n => n⟩
theorem Tryz.growDecl : Go.Proofs.Lays8.n4 Tryz.prog Tryz.growDecl_ren := {
 mixed := by kernel_rfl
 f4 := ⟨Tryz.f97.name, by decide, Tryz.func97.trans (congrArg some (by kernel_rfl))⟩
 t0 := Tryz.underlying0
 a0 := Tryz.isAgg0
 z0 := Tryz.sizeOf0
 v0 := Tryz.zeroValue0
 t3 := Tryz.underlying3
 a3 := Tryz.isAgg3
 z3 := Tryz.sizeOf3
 v3 := Tryz.zeroValue3
 t4 := Tryz.underlying4
 a4 := Tryz.isAgg4
 z4 := Tryz.sizeOf4
 v4 := Tryz.zeroValue4
 t9 := Tryz.underlying9
 a9 := Tryz.isAgg9
 z9 := Tryz.sizeOf9
 v9 := Tryz.zeroValue9
 t20 := Tryz.underlying20
 a20 := Tryz.isAgg20
 z20 := Tryz.sizeOf20
 v20 := Tryz.zeroValue20
 t22 := Tryz.underlying29
 a22 := Tryz.isAgg29
 z22 := Tryz.sizeOf29
 v22 := Tryz.zeroValue29 }
end Go.Proofs
