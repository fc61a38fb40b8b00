/-
  DERIVED: THE SHELF's CONTRACTS AT THIS DUMP, IN PLAIN WORDS (tools/lay-plain.mjs out of 'TryzSplit.lean', which tools/lay-shelf.mjs wrote): THE SAME DECLARATIONS UNDER THE SAME NAMES: 'import', 'namespace', 'open', 'def', 'theorem' AND NOTHING ELSE: no command of the shelf's: FOR A HAND-IN. Each laying: the table of numbers ('.._ren') and one theorem, a field a fact of the dump's own or the kernel's comparison; each contract: ONE APPLICATION.
-/
import Derived.Shelf.Strings.Split
import Derived.Test.YtkemhdbnkpblpaaGreatDoorProg
namespace Go.Proofs
open Go.Shelf
def Tryz.lays146_ren : Go.Shelf.Ren := ⟨fun | 146 => 135 | 221 => 187 | 268 => 241 | 138 => 242 | 143 => 243 | 195 => 314 | 197 => 315 | 218 => 316 | 219 => 317 | 260 => 361 | 217 => 362 | 225 => 363 | 224 => 364 | 267 => 365 | 266 => 388 | 314 => 389 | n => n, fun | 9 => 9 | 31 => 105 | 3 => 3 | 4 => 4 | 0 => 0 | 105 => 337 | 21 => 21 | 5 => 5 | 46 => 165 | 119 => 467 | 139 => 470 | 138 => 469 | 146 => 471 | 51 => 54 | n => n, fun | 1 => 0 | 3 => 1 | 4 => 2 | n => n⟩
theorem Tryz.lays146 : Go.Proofs.Lays.n146 Tryz.prog Tryz.lays146_ren := {
  mixed := by kernel_rfl
  f138 := Tryz.func242.trans (congrArg some (by kernel_rfl))
  f143 := Tryz.func243.trans (congrArg some (by kernel_rfl))
  f146 := Tryz.func135.trans (congrArg some (by kernel_rfl))
  f195 := Tryz.func314.trans (congrArg some (by kernel_rfl))
  f197 := Tryz.func315.trans (congrArg some (by kernel_rfl))
  f217 := Tryz.func362.trans (congrArg some (by kernel_rfl))
  f218 := Tryz.func316.trans (congrArg some (by kernel_rfl))
  f219 := Tryz.func317.trans (congrArg some (by kernel_rfl))
  f221 := Tryz.func187.trans (congrArg some (by kernel_rfl))
  f224 := Tryz.func364.trans (congrArg some (by kernel_rfl))
  f225 := Tryz.func363.trans (congrArg some (by kernel_rfl))
  f260 := Tryz.func361.trans (congrArg some (by kernel_rfl))
  f266 := Tryz.func388.trans (congrArg some (by kernel_rfl))
  f267 := Tryz.func365.trans (congrArg some (by kernel_rfl))
  f268 := Tryz.func241.trans (congrArg some (by kernel_rfl))
  f314 := Tryz.func389.trans (congrArg some (by kernel_rfl))
  t0 := Tryz.underlying0
  a0 := Tryz.isAgg0
  z0 := Tryz.sizeOf0
  v0 := Tryz.zeroValue0
  t3 := Tryz.underlying3
  a3 := Tryz.isAgg3
  z3 := Tryz.sizeOf3
  v3 := Tryz.zeroValue3
  t4 := Tryz.underlying4
  a4 := Tryz.isAgg4
  z4 := Tryz.sizeOf4
  v4 := Tryz.zeroValue4
  t5 := Tryz.underlying5
  a5 := Tryz.isAgg5
  z5 := Tryz.sizeOf5
  v5 := Tryz.zeroValue5
  t9 := Tryz.underlying9
  a9 := Tryz.isAgg9
  z9 := Tryz.sizeOf9
  v9 := Tryz.zeroValue9
  t21 := Tryz.underlying21
  a21 := Tryz.isAgg21
  z21 := Tryz.sizeOf21
  v21 := Tryz.zeroValue21
  t31 := Tryz.underlying105
  a31 := Tryz.isAgg105
  z31 := Tryz.sizeOf105
  v31 := Tryz.zeroValue105
  t46 := Tryz.underlying165
  a46 := Tryz.isAgg165
  z46 := Tryz.sizeOf165
  v46 := Tryz.zeroValue165
  t51 := Tryz.underlying54
  a51 := Tryz.isAgg54
  z51 := Tryz.sizeOf54
  v51 := Tryz.zeroValue54
  t105 := Tryz.underlying337
  a105 := Tryz.isAgg337
  z105 := Tryz.sizeOf337
  v105 := Tryz.zeroValue337
  t119 := Tryz.underlying467
  a119 := Tryz.isAgg467
  z119 := Tryz.sizeOf467
  t138 := Tryz.underlying469
  a138 := Tryz.isAgg469
  z138 := Tryz.sizeOf469
  v138 := Tryz.zeroValue469
  t139 := Tryz.underlying470
  a139 := Tryz.isAgg470
  z139 := Tryz.sizeOf470
  v139 := Tryz.zeroValue470
  t146 := Tryz.underlying471
  a146 := Tryz.isAgg471
  z146 := Tryz.sizeOf471
  v146 := Tryz.zeroValue471
  g1 := by kernel_rfl
  g3 := by kernel_rfl
  g4 := by kernel_rfl }
open Go.RowKit Go.Lib in
/-- strings.Split. (LAID: no walk: one application.) -/
theorem Tryz.strings_Split (s sep : ByteArray) (m : Int) (w : World) (hs : s.size < 4294967281) (hm : w.cell? ⟨0, 0, none⟩ = some (.int .i64 m)) (h1 : 1 ≤ sep.size) :
    Calls Tryz.prog 135 #[.string s, .string sep] w fun e w' =>
      e = .returned (.slice (some ⟨w.heap.size, 0, none⟩) (Lib.countB s sep + 1) (Lib.countB s sep + 1)) ∧ w' = w.alloc (.cells ((Lib.splitB sep 0 (Lib.countB s sep) s).map Value.string).toArray 9) := Any.strings_Split Tryz.lays146 (by kernel_rfl) s sep m w hs hm h1
end Go.Proofs
