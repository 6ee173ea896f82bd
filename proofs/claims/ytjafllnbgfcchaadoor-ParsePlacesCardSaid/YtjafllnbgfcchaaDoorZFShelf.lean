/-
 Contracts of library functions at this translation, laid by the guide's own tool; only those that this claim uses.
-/
import Derived.Shelf.Small.Strs
import Derived.Shelf.LaysM
import Derived.Shelf.Strings.Prefix
import Derived.Shelf.Strings.Fields
import Derived.Test.YtjafllnbgfcchaaDoorProg
namespace Go.Proofs
open Go.Shelf
def Tryd.lays137_ren : Go.Shelf.Ren := ⟨fun | 137 => 119 | 217 => 138 | 266 => 146 | n => n, fun | 9 => 9 | 5 => 5 | 3 => 3 | n => n, fun | n => n⟩
theorem Tryd.lays137 : Go.Proofs.Lays.n137 Tryd.prog Tryd.lays137_ren := {
 mixed := by kernel_rfl
 f137 := Tryd.func119.trans (congrArg some (by kernel_rfl))
 f217 := Tryd.func138.trans (congrArg some (by kernel_rfl))
 f266 := Tryd.func146.trans (congrArg some (by kernel_rfl))
 t3 := Tryd.underlying3
 a3 := Tryd.isAgg3
 z3 := Tryd.sizeOf3
 v3 := Tryd.zeroValue3
 t5 := Tryd.underlying5
 a5 := Tryd.isAgg5
 z5 := Tryd.sizeOf5
 v5 := Tryd.zeroValue5
 t9 := Tryd.underlying9
 a9 := Tryd.isAgg9
 z9 := Tryd.sizeOf9
 v9 := Tryd.zeroValue9 }
open Go.RowKit in
theorem Tryd.strings_IndexByte (s : ByteArray) (c : Int) (w : World) :
  Calls Tryd.prog 119 #[.string s, .int .u8 c] w fun e w' => e = .returned (.int .i64 (Lib.indexByte s.data.toList c.toNat.toUInt8)) ∧ w' = w := Any.strings_IndexByte Tryd.lays137 s c w
def Tryd.lays99_ren : Go.Shelf.Ren := ⟨fun | 99 => 47 | 206 => 83 | n => n, fun | 9 => 9 | 4 => 4 | 3 => 3 | n => n, fun | n => n⟩
theorem Tryd.lays99 : Go.Proofs.Lays.n99 Tryd.prog Tryd.lays99_ren := {
 mixed := by kernel_rfl
 f99 := Tryd.func47.trans (congrArg some (by kernel_rfl))
 f206 := Tryd.func83.trans (congrArg some (by kernel_rfl))
 t3 := Tryd.underlying3
 a3 := Tryd.isAgg3
 z3 := Tryd.sizeOf3
 v3 := Tryd.zeroValue3
 t4 := Tryd.underlying4
 a4 := Tryd.isAgg4
 z4 := Tryd.sizeOf4
 v4 := Tryd.zeroValue4
 t9 := Tryd.underlying9
 a9 := Tryd.isAgg9
 z9 := Tryd.sizeOf9
 v9 := Tryd.zeroValue9 }
open Go.RowKit Go.Lib in
theorem Tryd.strings_HasPrefix (s p : ByteArray) (w : World) :
  Calls Tryd.prog 47 #[.string s, .string p] w fun e w' => e = .returned (.bool (Lib.hasPrefix s.data.toList p.data.toList)) ∧ w' = w := Any.strings_HasPrefix Tryd.lays99 s p w
def Tryd.lays157_ren : Go.Shelf.Ren := ⟨fun | 157 => 148 | 229 => 150 | 199 => 151 | 261 => 153 | 311 => 155 | 312 => 156 | n => n, fun | 9 => 9 | 31 => 58 | 3 => 3 | 5 => 5 | 4 => 4 | 119 => 204 | 0 => 0 | 40 => 206 | 152 => 207 | 21 => 21 | 154 => 209 | 51 => 146 | 141 => 211 | 196 => 215 | 193 => 212 | 198 => 218 | 49 => 216 | 194 => 213 | 201 => 221 | 226 => 224 | 46 => 98 | 227 => 225 | n => n, fun | 0 => 4 | 6 => 5 | n => n⟩
theorem Tryd.lays157 : Go.Proofs.Lays.n157 Tryd.prog Tryd.lays157_ren := {
 mixed := by kernel_rfl
 f157 := Tryd.func148.trans (congrArg some (by kernel_rfl))
 f199 := Tryd.func151.trans (congrArg some (by kernel_rfl))
 f229 := Tryd.func150.trans (congrArg some (by kernel_rfl))
 f261 := Tryd.func153.trans (congrArg some (by kernel_rfl))
 f311 := Tryd.func155.trans (congrArg some (by kernel_rfl))
 f312 := Tryd.func156.trans (congrArg some (by kernel_rfl))
 t0 := Tryd.underlying0
 a0 := Tryd.isAgg0
 z0 := Tryd.sizeOf0
 v0 := Tryd.zeroValue0
 t3 := Tryd.underlying3
 a3 := Tryd.isAgg3
 z3 := Tryd.sizeOf3
 v3 := Tryd.zeroValue3
 t4 := Tryd.underlying4
 a4 := Tryd.isAgg4
 z4 := Tryd.sizeOf4
 v4 := Tryd.zeroValue4
 t5 := Tryd.underlying5
 a5 := Tryd.isAgg5
 z5 := Tryd.sizeOf5
 v5 := Tryd.zeroValue5
 t9 := Tryd.underlying9
 a9 := Tryd.isAgg9
 z9 := Tryd.sizeOf9
 v9 := Tryd.zeroValue9
 t21 := Tryd.underlying21
 a21 := Tryd.isAgg21
 z21 := Tryd.sizeOf21
 v21 := Tryd.zeroValue21
 t31 := Tryd.underlying58
 a31 := Tryd.isAgg58
 z31 := Tryd.sizeOf58
 v31 := Tryd.zeroValue58
 t40 := Tryd.underlying206
 a40 := Tryd.isAgg206
 z40 := Tryd.sizeOf206
 v40 := Tryd.zeroValue206
 t46 := Tryd.underlying98
 a46 := Tryd.isAgg98
 z46 := Tryd.sizeOf98
 v46 := Tryd.zeroValue98
 t49 := Tryd.underlying216
 a49 := Tryd.isAgg216
 z49 := Tryd.sizeOf216
 v49 := Tryd.zeroValue216
 t51 := Tryd.underlying146
 a51 := Tryd.isAgg146
 z51 := Tryd.sizeOf146
 v51 := Tryd.zeroValue146
 t119 := Tryd.underlying204
 a119 := Tryd.isAgg204
 z119 := Tryd.sizeOf204
 t141 := Tryd.underlying211
 a141 := Tryd.isAgg211
 z141 := Tryd.sizeOf211
 v141 := Tryd.zeroValue211
 t152 := Tryd.underlying207
 a152 := Tryd.isAgg207
 z152 := Tryd.sizeOf207
 v152 := Tryd.zeroValue207
 t154 := Tryd.underlying209
 a154 := Tryd.isAgg209
 z154 := Tryd.sizeOf209
 v154 := Tryd.zeroValue209
 t193 := Tryd.underlying212
 a193 := Tryd.isAgg212
 z193 := Tryd.sizeOf212
 v193 := Tryd.zeroValue212
 t194 := Tryd.underlying213
 a194 := Tryd.isAgg213
 z194 := Tryd.sizeOf213
 v194 := Tryd.zeroValue213
 t196 := Tryd.underlying215
 a196 := Tryd.isAgg215
 z196 := Tryd.sizeOf215
 v196 := Tryd.zeroValue215
 t198 := Tryd.underlying218
 a198 := Tryd.isAgg218
 z198 := Tryd.sizeOf218
 v198 := Tryd.zeroValue218
 t201 := Tryd.underlying221
 a201 := Tryd.isAgg221
 z201 := Tryd.sizeOf221
 v201 := Tryd.zeroValue221
 t226 := Tryd.underlying224
 a226 := Tryd.isAgg224
 z226 := Tryd.sizeOf224
 v226 := Tryd.zeroValue224
 t227 := Tryd.underlying225
 a227 := Tryd.isAgg225
 z227 := Tryd.sizeOf225
 v227 := Tryd.zeroValue225
 g0 := by kernel_rfl
 g6 := by kernel_rfl }
open Go.RowKit Go.Lib in
theorem Tryd.strings_Fields (s : ByteArray) (w : World) (hs : s.size < 4294967281) (hascii : ∀ (j : Nat) b, s.data.toList[j]? = some b → b.toNat < 128) (htab : Lib.TabIs Tryd.prog w "strings.asciiSpace" .u8 Lib.asciiSpaceTab) :
  Calls Tryd.prog 148 #[.string s] w fun e w' =>
   e = .returned (.slice (some ⟨w.heap.size, 0, none⟩) (Lib.fields s.data.toList).length (Lib.fields s.data.toList).length) ∧ w' = w.alloc (.cells ((Lib.fields s.data.toList).map fun l => Value.string ⟨l.toArray⟩).toArray 9) := Any.strings_Fields Tryd.lays157 (by kernel_rfl) (by kernel_rfl) s w hs hascii htab
end Go.Proofs

