/- The changes sorted, the checks of grade changes. No condition. -/
import Derived.Shelf.Small.Bits
import Derived.Shelf.Strconv.Itoa0
import Derived.Shelf.Sort.Plain
import Derived.Ground.Names2Prog
import Derived.Shelf.Slices.CompactI
import Derived.Shelf.Slices.SearchI
import Derived.Shelf.Slices.Cells
import Derived.Shelf.Slices.In.SortNone
import Derived.Test.YtebifddfgimnlaaProg
import Derived.Test.YtebifddfgimnlaaU1
import Derived.Sort.OwnSortedInts
section
/-
  DERIVED: THE SHELF's CONTRACTS AT THIS DUMP, IN PLAIN WORDS (tools/lay-plain.mjs out of 'TryShelf.lean', which tools/lay-shelf.mjs wrote): THE SAME DECLARATIONS UNDER THE SAME NAMES: 'import', 'namespace', 'open', 'def', 'theorem' AND NOTHING ELSE: no command of the shelf's: FOR A HAND-IN. Each laying: the table of numbers ('.._ren') and one theorem, a field a fact of the dump's own or the kernel's comparison; each contract: ONE APPLICATION.
-/
namespace Go.Proofs
open Go.Shelf
def Try.lays128_ren : Go.Shelf.Ren := ⟨fun | 128 => 54 | n => n, fun | 51 => 107 | 3 => 3 | 4 => 4 | 46 => 96 | 5 => 5 | 9 => 9 | n => n, fun | n => n⟩
theorem Try.lays128 : Go.Proofs.Lays.n128 Try.prog Try.lays128_ren := {
  mixed := by kernel_rfl
  f128 := Try.func54.trans (congrArg some (by kernel_rfl))
  t3 := Try.underlying3
  a3 := Try.isAgg3
  z3 := Try.sizeOf3
  v3 := Try.zeroValue3
  t4 := Try.underlying4
  a4 := Try.isAgg4
  z4 := Try.sizeOf4
  v4 := Try.zeroValue4
  t5 := Try.underlying5
  a5 := Try.isAgg5
  z5 := Try.sizeOf5
  v5 := Try.zeroValue5
  t9 := Try.underlying9
  a9 := Try.isAgg9
  z9 := Try.sizeOf9
  v9 := Try.zeroValue9
  t46 := Try.underlying96
  a46 := Try.isAgg96
  z46 := Try.sizeOf96
  v46 := Try.zeroValue96
  t51 := Try.underlying107
  a51 := Try.isAgg107
  z51 := Try.sizeOf107
  v51 := Try.zeroValue107 }
/-- bits.Len32: "Len32 returns the minimum number of bits required to represent x; the result is 0 for x == 0.": IT RETURNS 'Lib.bitLen x'; the world is as it was. ('h0', 'h1': x is a uint32.) (LAID: no walk: one application.) -/
theorem Try.bits_Len32 (x : Int) (w : World) (h0 : 0 ≤ x) (h1 : x ≤ 4294967295) :
    Calls Try.prog 54 #[.int .u32 x] w fun e w' => e = .returned (.int .i64 (Lib.bitLen x.toNat)) ∧ w' = w := Any.bits_Len32 Try.lays128 x w h0 h1
def Try.lays125_ren : Go.Shelf.Ren := ⟨fun | 125 => 44 | 128 => 54 | 129 => 55 | n => n, fun | 46 => 96 | 3 => 3 | 51 => 107 | 53 => 109 | 4 => 4 | 5 => 5 | 9 => 9 | n => n, fun | n => n⟩
theorem Try.lays125 : Go.Proofs.Lays.n125 Try.prog Try.lays125_ren := {
  mixed := by kernel_rfl
  f125 := Try.func44.trans (congrArg some (by kernel_rfl))
  f128 := Try.func54.trans (congrArg some (by kernel_rfl))
  f129 := Try.func55.trans (congrArg some (by kernel_rfl))
  t3 := Try.underlying3
  a3 := Try.isAgg3
  z3 := Try.sizeOf3
  v3 := Try.zeroValue3
  t4 := Try.underlying4
  a4 := Try.isAgg4
  z4 := Try.sizeOf4
  v4 := Try.zeroValue4
  t5 := Try.underlying5
  a5 := Try.isAgg5
  z5 := Try.sizeOf5
  v5 := Try.zeroValue5
  t9 := Try.underlying9
  a9 := Try.isAgg9
  z9 := Try.sizeOf9
  v9 := Try.zeroValue9
  t46 := Try.underlying96
  a46 := Try.isAgg96
  z46 := Try.sizeOf96
  v46 := Try.zeroValue96
  t51 := Try.underlying107
  a51 := Try.isAgg107
  z51 := Try.sizeOf107
  v51 := Try.zeroValue107
  t53 := Try.underlying109
  a53 := Try.isAgg109
  z53 := Try.sizeOf109
  v53 := Try.zeroValue109 }
/-- bits.Len: "Len returns the minimum number of bits required to represent x; the result is 0 for x == 0.": IT RETURNS 'Lib.bitLen x'; the world is as it was. (A uint has 64 bits in the model.) ITS CALLEE bits.Len64 IS MET BY ITS OWN CONTRACT OFF THE SHELF (lay that first). (LAID: no walk: one application.) -/
theorem Try.bits_Len (x : Int) (w : World) (h0 : 0 ≤ x) (h1 : x ≤ 18446744073709551615) :
    Calls Try.prog 44 #[.int .u64 x] w fun e w' => e = .returned (.int .i64 (Lib.bitLen x.toNat)) ∧ w' = w := Any.bits_Len Try.lays125 x w h0 h1
def Try.lays129_ren : Go.Shelf.Ren := ⟨fun | 129 => 55 | n => n, fun | 53 => 109 | 3 => 3 | 4 => 4 | 46 => 96 | 5 => 5 | 9 => 9 | n => n, fun | n => n⟩
theorem Try.lays129 : Go.Proofs.Lays.n129 Try.prog Try.lays129_ren := {
  mixed := by kernel_rfl
  f129 := Try.func55.trans (congrArg some (by kernel_rfl))
  t3 := Try.underlying3
  a3 := Try.isAgg3
  z3 := Try.sizeOf3
  v3 := Try.zeroValue3
  t4 := Try.underlying4
  a4 := Try.isAgg4
  z4 := Try.sizeOf4
  v4 := Try.zeroValue4
  t5 := Try.underlying5
  a5 := Try.isAgg5
  z5 := Try.sizeOf5
  v5 := Try.zeroValue5
  t9 := Try.underlying9
  a9 := Try.isAgg9
  z9 := Try.sizeOf9
  v9 := Try.zeroValue9
  t46 := Try.underlying96
  a46 := Try.isAgg96
  z46 := Try.sizeOf96
  v46 := Try.zeroValue96
  t53 := Try.underlying109
  a53 := Try.isAgg109
  z53 := Try.sizeOf109
  v53 := Try.zeroValue109 }
/-- bits.Len64: "Len64 returns the minimum number of bits required to represent x; the result is 0 for x == 0.": IT RETURNS 'Lib.bitLen x'; the world is as it was. ('h0', 'h1': x is a uint64.) (LAID: no walk: one application.) -/
theorem Try.bits_Len64 (x : Int) (w : World) (h0 : 0 ≤ x) (h1 : x ≤ 18446744073709551615) :
    Calls Try.prog 55 #[.int .u64 x] w fun e w' => e = .returned (.int .i64 (Lib.bitLen x.toNat)) ∧ w' = w := Any.bits_Len64 Try.lays129 x w h0 h1
def Try.lays189_ren : Go.Shelf.Ren := ⟨fun | 189 => 37 | 125 => 44 | 257 => 43 | 128 => 54 | 129 => 55 | 294 => 45 | 295 => 46 | 296 => 47 | 297 => 48 | 298 => 49 | 299 => 50 | 216 => 51 | 300 => 52 | 301 => 53 | 328 => 56 | 329 => 57 | 330 => 58 | 331 => 59 | 332 => 60 | 215 => 61 | 343 => 62 | n => n, fun | 28 => 29 | 3 => 3 | 46 => 96 | 0 => 0 | 51 => 107 | 53 => 109 | 4 => 4 | 183 => 99 | 182 => 98 | 131 => 104 | 5 => 5 | 9 => 9 | 218 => 110 | 222 => 114 | 228 => 116 | 229 => 117 | n => n, fun | n => n⟩
theorem Try.lays189 : Go.Proofs.Lays.n189 Try.prog Try.lays189_ren := {
  mixed := by kernel_rfl
  f125 := Try.func44.trans (congrArg some (by kernel_rfl))
  f128 := Try.func54.trans (congrArg some (by kernel_rfl))
  f129 := Try.func55.trans (congrArg some (by kernel_rfl))
  f189 := Try.func37.trans (congrArg some (by kernel_rfl))
  f215 := Try.func61.trans (congrArg some (by kernel_rfl))
  f216 := Try.func51.trans (congrArg some (by kernel_rfl))
  f257 := Try.func43.trans (congrArg some (by kernel_rfl))
  f294 := Try.func45.trans (congrArg some (by kernel_rfl))
  f295 := Try.func46.trans (congrArg some (by kernel_rfl))
  f296 := Try.func47.trans (congrArg some (by kernel_rfl))
  f297 := Try.func48.trans (congrArg some (by kernel_rfl))
  f298 := Try.func49.trans (congrArg some (by kernel_rfl))
  f299 := Try.func50.trans (congrArg some (by kernel_rfl))
  f300 := Try.func52.trans (congrArg some (by kernel_rfl))
  f301 := Try.func53.trans (congrArg some (by kernel_rfl))
  f328 := Try.func56.trans (congrArg some (by kernel_rfl))
  f329 := Try.func57.trans (congrArg some (by kernel_rfl))
  f330 := Try.func58.trans (congrArg some (by kernel_rfl))
  f331 := Try.func59.trans (congrArg some (by kernel_rfl))
  f332 := Try.func60.trans (congrArg some (by kernel_rfl))
  f343 := Try.func62.trans (congrArg some (by kernel_rfl))
  t0 := Try.underlying0
  a0 := Try.isAgg0
  z0 := Try.sizeOf0
  v0 := Try.zeroValue0
  t3 := Try.underlying3
  a3 := Try.isAgg3
  z3 := Try.sizeOf3
  v3 := Try.zeroValue3
  t4 := Try.underlying4
  a4 := Try.isAgg4
  z4 := Try.sizeOf4
  v4 := Try.zeroValue4
  t5 := Try.underlying5
  a5 := Try.isAgg5
  z5 := Try.sizeOf5
  v5 := Try.zeroValue5
  t9 := Try.underlying9
  a9 := Try.isAgg9
  z9 := Try.sizeOf9
  v9 := Try.zeroValue9
  t28 := Try.underlying29
  a28 := Try.isAgg29
  z28 := Try.sizeOf29
  v28 := Try.zeroValue29
  t46 := Try.underlying96
  a46 := Try.isAgg96
  z46 := Try.sizeOf96
  v46 := Try.zeroValue96
  t51 := Try.underlying107
  a51 := Try.isAgg107
  z51 := Try.sizeOf107
  v51 := Try.zeroValue107
  t53 := Try.underlying109
  a53 := Try.isAgg109
  z53 := Try.sizeOf109
  v53 := Try.zeroValue109
  t131 := Try.underlying104
  a131 := Try.isAgg104
  z131 := Try.sizeOf104
  v131 := Try.zeroValue104
  t182 := Try.underlying98
  a182 := Try.isAgg98
  z182 := Try.sizeOf98
  v182 := Try.zeroValue98
  t183 := Try.underlying99
  a183 := Try.isAgg99
  z183 := Try.sizeOf99
  v183 := Try.zeroValue99
  t218 := Try.underlying110
  a218 := Try.isAgg110
  z218 := Try.sizeOf110
  v218 := Try.zeroValue110
  t222 := Try.underlying114
  a222 := Try.isAgg114
  z222 := Try.sizeOf114
  v222 := Try.zeroValue114
  t228 := Try.underlying116
  a228 := Try.isAgg116
  z228 := Try.sizeOf116
  v228 := Try.zeroValue116
  t229 := Try.underlying117
  a229 := Try.isAgg117
  z229 := Try.sizeOf117
  v229 := Try.zeroValue117 }
open Go.Sort Go.RowKit in
theorem Try.slices_Sort_int (blk off cap : Nat) (zs : List Int) (w : World) (hH : Holds (Value.int .i64) w blk off zs.toArray) (hblk : blk < w.heap.size) (hsz : zs.length < 4611686018427387904) :
    Calls Try.prog 37 #[.slice (some ⟨blk, off, none⟩) zs.length cap] w fun e w' =>
      e = .returned (.tuple #[]) ∧ ∃ n os, w' = grow (putRow (Value.int .i64) (Sort.ahead w n) blk off (zs.mergeSort fun x y => decide (x ≤ y)).toArray) os := Any.slices_Sort_int Try.lays189 blk off cap zs w hH hblk hsz
def Try.laysNm220_ren : Go.Shelf.Ren := ⟨fun | 20 => 38 | n => n, fun | 22 => 29 | 3 => 3 | 4 => 4 | 0 => 0 | n => n, fun | n => n⟩
theorem Try.laysNm220 : Go.Proofs.Lays2.n20 Try.prog Try.laysNm220_ren := {
  mixed := by kernel_rfl
  f20 := Try.func38.trans (congrArg some (by kernel_rfl))
  t0 := Try.underlying0
  a0 := Try.isAgg0
  z0 := Try.sizeOf0
  v0 := Try.zeroValue0
  t3 := Try.underlying3
  a3 := Try.isAgg3
  z3 := Try.sizeOf3
  v3 := Try.zeroValue3
  t4 := Try.underlying4
  a4 := Try.isAgg4
  z4 := Try.sizeOf4
  v4 := Try.zeroValue4
  t22 := Try.underlying29
  a22 := Try.isAgg29
  z22 := Try.sizeOf29
  v22 := Try.zeroValue29
  i3 := by kernel_rfl }
open Go.RowKit Go.Lib Go.Sort in
/-- slices.Compact at []int, over an array: the library's two loops are walked. (LAID: no walk: one application.) -/
theorem Try.slices_Compact_int_arr (blk off cap : Nat) (d : Array Int) (w : World) (hH : Holds encI w blk off d) (hsz : d.size ≤ 9223372036854775807) (hcap : d.size ≤ cap) :
    Calls Try.prog 38 #[.slice (some ⟨blk, off, none⟩) d.size cap] w fun e w' => e = .returned (.slice (some ⟨blk, off, none⟩) (compactUpTo d d.size).length cap) ∧ ∃ q, w' = putRow encI (Sort.ahead w q) blk off (compactUpTo d d.size ++ List.replicate (d.size - (compactUpTo d d.size).length) 0).toArray := Any.slices_Compact_int_arr Try.laysNm220 blk off cap d w hH hsz hcap
open Go.RowKit Go.Lib Go.Sort in
/-- slices.Compact at []int: "Compact replaces consecutive runs of equal elements with a single copy. This is like the uniq command found on Unix. Compact modifies the contents of the slice s and returns the modified slice, which may have a smaller length. Compact zeroes the elements between the new length and the original length. The result preserves the nilness of s.": IT RETURNS THE SLICE CUT TO 'Lib.compact zs'; ITS CELLS HOLD 'Lib.compact zs', THEN ZERO VALUES up to the old length; all else is as it was, but for the count of draws. IN THE WORDS OF slices.Sort's CONTRACT ('Holds', 'putRow'): so the everyday 'slices.Sort(xs); xs = slices.Compact(xs)' goes from the one contract to the other. It asks 'zs.length ≤ cap' (every slice's: the reslicing 's[:k]' looks at it). Length 0, nil: '.._empty'. (LAID: no walk: one application.) -/
theorem Try.slices_Compact_int (blk off cap : Nat) (zs : List Int) (w : World) (hH : Holds (Value.int .i64) w blk off zs.toArray) (hsz : zs.length ≤ 9223372036854775807) (hcap : zs.length ≤ cap) :
    Calls Try.prog 38 #[.slice (some ⟨blk, off, none⟩) zs.length cap] w fun e w' => e = .returned (.slice (some ⟨blk, off, none⟩) (Lib.compact zs).length cap) ∧ ∃ q, w' = putRow (Value.int .i64) (Sort.ahead w q) blk off (Lib.compact zs ++ List.replicate (zs.length - (Lib.compact zs).length) 0).toArray := Any.slices_Compact_int Try.laysNm220 blk off cap zs w hH hsz hcap
open Go.RowKit Go.Lib Go.Sort in
/-- The same at a slice of length 0, a nil one too: it comes back as it is. (LAID: no walk: one application.) -/
theorem Try.slices_Compact_int_empty (a : Option Addr) (cap : Nat) (w : World) :
    Calls Try.prog 38 #[.slice a 0 cap] w fun e w' => e = .returned (.slice a 0 cap) ∧ w' = w := Any.slices_Compact_int_empty Try.laysNm220 a cap w
def Try.laysNm237_ren : Go.Shelf.Ren := ⟨fun | 37 => 61 | n => n, fun | 3 => 3 | 4 => 4 | n => n, fun | n => n⟩
theorem Try.laysNm237 : Go.Proofs.Lays2.n37 Try.prog Try.laysNm237_ren := {
  mixed := by kernel_rfl
  f37 := Try.func61.trans (congrArg some (by kernel_rfl))
  t3 := Try.underlying3
  a3 := Try.isAgg3
  z3 := Try.sizeOf3
  v3 := Try.zeroValue3
  t4 := Try.underlying4
  a4 := Try.isAgg4
  z4 := Try.sizeOf4
  v4 := Try.zeroValue4 }
open Go.RowKit Go.Lib in
/-- cmp.isNaN[int]: 'x != x': false. (LAID: no walk: one application.) -/
theorem Try.cmp_isNaN_int2 (x : Int) (w : World) :
    Calls Try.prog 61 #[.int .i64 x] w fun e w' => e = .returned (.bool false) ∧ w' = w := Any.cmp_isNaN_int2 Try.laysNm237 x w
def Try.laysNm231_ren : Go.Shelf.Ren := ⟨fun | 31 => 51 | 37 => 61 | n => n, fun | 3 => 3 | 4 => 4 | n => n, fun | n => n⟩
theorem Try.laysNm231 : Go.Proofs.Lays2.n31 Try.prog Try.laysNm231_ren := {
  mixed := by kernel_rfl
  f31 := Try.func51.trans (congrArg some (by kernel_rfl))
  f37 := Try.func61.trans (congrArg some (by kernel_rfl))
  t3 := Try.underlying3
  a3 := Try.isAgg3
  z3 := Try.sizeOf3
  v3 := Try.zeroValue3
  t4 := Try.underlying4
  a4 := Try.isAgg4
  z4 := Try.sizeOf4
  v4 := Try.zeroValue4 }
open Go.RowKit Go.Lib in
/-- cmp.Less[int]: "Less reports whether x is less than y.": 'x < y'; the world is as it was. (LAID: no walk: one application.) -/
theorem Try.cmp_Less_int2 (x y : Int) (w : World) :
    Calls Try.prog 51 #[.int .i64 x, .int .i64 y] w fun e w' => e = .returned (.bool (decide (x < y))) ∧ w' = w := Any.cmp_Less_int2 Try.laysNm231 x y w
open Go.RowKit Go.Lib Go.Sort in
/-- slices.Compact at []int, of an argument: the slice cut to 'Lib.compact (elements)'; the n cells hold that, then zeros. (LAID: no walk: one application.) -/
theorem Try.slices_Compact_int_cells (b off n c : Nat) (zs : List Int) (w : World) (hz : n ≤ zs.length) (hbig : n ≤ 9223372036854775807) (hcap : n ≤ c) (hc : ∀ j, j < zs.length → w.cell? ⟨b, off + j, none⟩ = some (.int .i64 (zs.getD j 0))) (hf : ∀ j, j < n → w.frozen? ⟨b, off + j, none⟩ = false) :
    Calls Try.prog 38 #[.slice (some ⟨b, off, none⟩) n c] w fun e w' => e = .returned (.slice (some ⟨b, off, none⟩) (Lib.compact (zs.take n)).length c) ∧ ∃ q, w' = (w.drewN q).setCells b off ((Lib.compact (zs.take n) ++ List.replicate (n - (Lib.compact (zs.take n)).length) 0).map (Value.int .i64)) := Any.slices_Compact_int_cells Try.laysNm220 b off n c zs w hz hbig hcap hc hf
open Go.RowKit Go.Sort in
/-- .. and plain. (LAID: no walk: one application.) -/
theorem Try.slices_Sort_int_none (p : Option Addr) (cap : Nat) (w : World) :
    Calls Try.prog 37 #[.slice p 0 cap] w fun e w' => e = .returned (.tuple #[]) ∧ w' = w := Any.slices_Sort_int_none Try.lays189 p cap w
end Go.Proofs
end
section
/- ordered: the library's sort and its removal of neighbours that are equal. -/
namespace Go.Proofs.Ytebifddfgimnlaa.Rl
open Go.RowKit Go.Proofs.Ytebifddfgimnlaa.PX Go.Proofs.Ytebifddfgimnlaa.Rd Go.Proofs.YtebifddfgimnlaaW.PrintWords Go.Proofs.YtebifddfgimnlaaW.PrintLast Go.Sort
set_option linter.unusedVariables false
set_option linter.unusedSimpArgs false
/-- In ascending order, each once. -/
def chZ (l : List Int) : List Int := Lib.compact (l.mergeSort fun x y => decide (x ≤ y))
theorem compactUpTo_le (d : Array Int) (m : Nat) : (Lib.compactUpTo d m).length ≤ m := by
  induction m with
  | zero => exact Nat.le_of_eq rfl
  | succ m ih =>
    rw [Lib.compactUpTo_succ, List.length_append]
    split <;> simp <;> omega
theorem compact_le (l : List Int) : (Lib.compact l).length ≤ l.length := compactUpTo_le l.toArray l.length
theorem compactUpTo_mem (d : Array Int) (m : Nat) : ∀ i, i < m → d[i]! ∈ Lib.compactUpTo d m := by
  induction m with
  | zero => intro i h; omega
  | succ m ih =>
    intro i h
    rw [Lib.compactUpTo_succ, List.mem_append]
    by_cases hi : i < m
    · exact .inl (ih i hi)
    · obtain rfl : i = m := by omega
      by_cases hk : i = 0 ∨ d[i]! ≠ d[i - 1]!
      · rw [if_pos (show Lib.keeps d i = true from decide_eq_true hk)]
        exact .inr (List.mem_singleton.2 rfl)
      · have h1 : ¬ i = 0 := fun e => hk (.inl e)
        have h2 : d[i]! = d[i - 1]! := Decidable.byContradiction (fun e => hk (.inr e))
        rw [h2]
        exact .inl (ih (i - 1) (by omega))
theorem mem_compact {zs : List Int} {x : Int} : x ∈ Lib.compact zs ↔ x ∈ zs := by
  constructor
  · intro h
    unfold Lib.compact Lib.compactUpTo at h
    obtain ⟨i, hi, rfl⟩ := List.mem_map.1 h
    have hi' : i < zs.length := List.mem_range.1 (List.mem_filter.1 hi).1
    simp [getElem!_pos, hi']
  · intro h
    obtain ⟨i, hi, rfl⟩ := List.mem_iff_getElem.1 h
    have := compactUpTo_mem zs.toArray zs.length i hi
    rw [show zs.toArray[i]! = zs[i] from by simp [getElem!_pos, hi]] at this
    exact this
theorem compact_sorted {zs : List Int} (h : zs.Pairwise (· ≤ ·)) : (Lib.compact zs).Pairwise (· ≤ ·) := by
  unfold Lib.compact Lib.compactUpTo
  rw [List.pairwise_map]
  refine (List.Pairwise.filter _ (List.pairwise_lt_range (n := zs.length))).imp_of_mem ?_
  intro a b ha hb hlt
  have ha' : a < zs.length := List.mem_range.1 (List.mem_filter.1 ha).1
  have hb' : b < zs.length := List.mem_range.1 (List.mem_filter.1 hb).1
  rw [show zs.toArray[a]! = zs[a] from by simp [getElem!_pos, ha'], show zs.toArray[b]! = zs[b] from by simp [getElem!_pos, hb']]
  exact List.pairwise_iff_getElem.1 h a b ha' hb' hlt
theorem mem_chZ {l : List Int} {x : Int} : x ∈ chZ l ↔ x ∈ l := by
  unfold chZ
  rw [mem_compact]
  exact List.mem_mergeSort
theorem chZ_sorted (l : List Int) : (chZ l).Pairwise (· ≤ ·) := by
  unfold chZ
  refine compact_sorted ?_
  refine (List.pairwise_mergeSort (le := fun x y : Int => decide (x ≤ y)) (fun a b c h1 h2 => ?_) (fun a b => ?_) l).imp (fun h => of_decide_eq_true h)
  · have h1 := of_decide_eq_true h1; have h2 := of_decide_eq_true h2; exact decide_eq_true (by omega)
  · simp only [Bool.or_eq_true, decide_eq_true_eq]; omega
theorem chZ_len {l : List Int} (h : 0 < l.length) : 0 < (chZ l).length ∧ (chZ l).length ≤ l.length := by
  constructor
  · obtain ⟨x, hx⟩ := List.exists_mem_of_length_pos h
    exact List.length_pos_of_mem (mem_chZ.2 hx)
  · unfold chZ
    refine Nat.le_trans (compact_le _) ?_
    rw [List.length_mergeSort]
    exact Nat.le_refl _
/-- The row of the changes lies in one block. -/
theorem row_G {w : World} {B n co : Nat} {ok : Nat → Prop} {A : Option Addr} {l : List Int} (hR : Kd.R (Kd.int .i64) 3 w B ok (.slice A n co) l) (hn : l.length = n) (h0 : 0 < n) : ∃ ga, B ≤ ga ∧ ga < w.heap.size ∧ ∀ W', W'.heap[ga]? = w.heap[ga]? → Kd.C (Kd.int .i64) W' A l.length l := by
  have hown := Kd.own_of_R hR
  rcases hown.2 with ⟨h, hn0⟩ | ⟨g, cap, cur, hv, hbase, hb, hn1, hcap, hsz, htk⟩
  · omega
  · refine ⟨g, hbase, blk_lt hb, fun W' hW => ?_⟩
    have hob : (Value.slice A n co).ownBlock = some g := by rw [hv]; rfl
    have h2 := Kd.R_step (w1 := W') (ok := fun k => k = g) (⟨fun k hk => by rw [hob] at hk; exact (Option.some.inj hk).symm, hR.2⟩ : Kd.R (Kd.int .i64) 3 w B (fun k => k = g) (.slice A n co) l) (fun k hk _ => by subst hk; exact hW)
    obtain ⟨A2, c2, e, _, hC⟩ := Kd.R_reads h2
    obtain ⟨rfl, _, _⟩ := Value.slice.inj e
    exact hC
theorem ordered_calls (B : Nat) (ok : Nat → Prop) (A : Option Addr) (n co : Nat) (l : List Int) (w : World) (hR : Kd.R (Kd.int .i64) 3 w B ok (.slice A n co) l) (hn : l.length = n) (h0 : 0 < n) (hl : n ≤ 1000) :
    Calls Try.prog 23 #[.slice A n co] w fun e w' => e = .returned (.slice A (chZ l).length co) ∧ Kd.R (Kd.int .i64) 3 w' B ok (.slice A (chZ l).length co) (chZ l) ∧ w.grownBy w' (Value.slice A n co).ownBlock := by
  have hown := Kd.own_of_R hR
  have hok := hR.1
  rcases hown.2 with ⟨h, hn0⟩ | ⟨g, cap, cur, hv, hbase, hb, hn1, hcap, hsz, htk⟩
  · omega
  subst hn
  obtain ⟨rfl, _, rfl⟩ := Value.slice.inj hv
  rw [Nat.mul_one] at hsz htk
  have hH := holds_of_blockI (ss := l) hb htk
  have hS := Try.slices_Sort_int g 0 co l w hH (blk_lt hb) (by omega)
  obtain ⟨zs, hzs⟩ : ∃ zs, (l.mergeSort fun x y => decide (x ≤ y)) = zs := ⟨_, rfl⟩
  have hzl : zs.length = l.length := by rw [← hzs, List.length_mergeSort]
  rw [hzs] at hS
  have HS := Aside0.mk hS
  have HB := Aside0.mk hb
  have HZ := Aside0.mk (show zs.length = l.length ∧ l.length ≤ co ∧ co ≤ maxLen ∧ cur.size = co ∧ B ≤ g ∧ l.length ≤ 1000 ∧ ok g from ⟨hzl, hn1, hcap, hsz, hbase, hl, hok g rfl⟩)
  have HC := Aside0.mk (show chZ l = Lib.compact zs from by unfold chZ; rw [hzs])
  clear hS hR hown hok h0 hl hbase hb hn1 hcap hsz htk hH hzs hzl hv
  go_enter Try.func23, Try.ntmps23
  go_wp2_with (first
    | (go_at_call 37; go_must (refine HS.out.mono ?_; rintro e w1 ⟨rfl, k, os, hw1⟩; have HB1 := Aside0.mk (show w1.heap[g]? = some (.cells (putCells (Value.int .i64) 0 zs.toArray cur) 3 (0, 0)) from by rw [hw1]; exact heap_sortedI _ HB.out); have HG1 := Aside0.mk (show w.grownBy w1 (some g) from by rw [hw1]; exact grownBy_sortedI _); clear hw1 HS))
    | (go_at_call 38; go_must (have hS2 := Try.slices_Compact_int g 0 co zs w1 (holds_of_blockI HB1.out (take_putCellsI cur zs (by have := HZ.out; omega))) (by have := HZ.out; omega) (by have := HZ.out; omega); rw [HZ.out.1] at hS2; refine hS2.mono ?_; rintro e w2 ⟨rfl, q, hw2⟩; have HW2 := Aside0.mk hw2; clear hw2 hS2)))
  go_ret
  have hw2 := HW2.out
  obtain ⟨h1, h2, h3, h4, h5, h6, h7⟩ := HZ.out
  have hcl := compact_le zs
  have hw3 : w2 = grow (putRow (Value.int .i64) (Sort.ahead w1 q) g 0 (Lib.compact zs ++ List.replicate (l.length - (Lib.compact zs).length) 0).toArray) #[] := by rw [grow_empty]; exact hw2
  have hG2 : w1.grownBy w2 (some g) := by rw [hw3]; exact grownBy_sortedI _
  have hlen : (Lib.compact zs ++ List.replicate (l.length - (Lib.compact zs).length) 0).length = l.length := by rw [List.length_append, List.length_replicate]; omega
  have hO2 : w2.ownsRow B 3 1 (.slice (some ⟨g, 0, none⟩) l.length co) l.length ((Lib.compact zs ++ List.replicate (l.length - (Lib.compact zs).length) 0).map (Value.int .i64)) := by
    rw [hw3]
    exact ownsRow_sortedI (ss := l) hlen h5 HB1.out h2 h3 (by simp [putCells]; omega)
  have hR2 : Kd.R (Kd.int .i64) 3 w2 B ok (.slice (some ⟨g, 0, none⟩) l.length co) (Lib.compact zs ++ List.replicate (l.length - (Lib.compact zs).length) 0) :=
    Kd.R_of_own (enc := Value.int .i64) (h1 := fun _ => rfl) (by rw [hlen]; exact hO2) (fun k hk => (show g = k by simpa [Value.ownBlock] using hk) ▸ h7)
  have hR3 := Kd.R_take hR2 (m := (Lib.compact zs).length) (by omega)
  rw [List.take_left'  rfl] at hR3
  rw [HC.out]
  exact ⟨rfl, hR3, HG1.out.trans hG2⟩
end Go.Proofs.Ytebifddfgimnlaa.Rl
end
section
/- The closure that stretches hands back. -/
namespace Go.Proofs.Ytebifddfgimnlaa.Rl
open Go.RowKit Go.Proofs.Ytebifddfgimnlaa.PX Go.Proofs.Ytebifddfgimnlaa.Rd Go.Proofs.YtebifddfgimnlaaW.PrintWords Go.Proofs.YtebifddfgimnlaaW.PrintLast
set_option linter.unusedVariables false
set_option linter.unusedSimpArgs false
/-- The changes. -/
def chL (c : Cs) (P : List S77) : List Int := chZ (chR c P)
/-- Where the closure's blocks lie. -/
def StG (B : Nat) (w : World) (gh gc gp : Nat) (ch : List Int) (Ah : Option Addr) : Prop :=
  B ≤ gh ∧ B ≤ gc ∧ B ≤ gp ∧ ∃ ga, B ≤ ga ∧ ga < w.heap.size ∧ ∀ W', W'.heap[ga]? = w.heap[ga]? → Kd.C (Kd.int .i64) W' Ah ch.length ch
theorem row_C {w : World} {B n co : Nat} {ok : Nat → Prop} {A : Option Addr} {l : List Int} (h : Kd.R (Kd.int .i64) 3 w B ok (.slice A n co) l) : Kd.C (Kd.int .i64) w A l.length l := by
  obtain ⟨A2, c2, e, _, hC⟩ := Kd.R_reads h
  obtain ⟨rfl, _, _⟩ := Value.slice.inj e
  exact hC
set_option maxHeartbeats 4000000 in
set_option maxRecDepth 100000 in
theorem made_calls (c : Cs) (a : CsA) (P : List S77) (Ap : Option Addr) (cp : Nat) (w : World) (hc : CsC w c a) (hp : PhC w P Ap cp) (hlp : P.length ≤ 100) (hls : c.sw.length ≤ 100) (hlq : c.pac.length ≤ 100) :
    Calls Try.prog 12 #[.agg (csV c a), .slice Ap P.length cp] w fun e w' => ∃ gh gc gp Ah chc, e = .returned (.func (.func 24) #[] #[.pointer (some ⟨gh, 0, none⟩), .pointer (some ⟨gc, 0, none⟩), .pointer (some ⟨gp, 0, none⟩)]) ∧ StC w' gh gc gp c a P Ap cp (chL c P) Ah chc ∧ StG w.heap.size w' gh gc gp (chL c P) Ah ∧ Below w.heap.size w w' := by
  have HC := Aside0.mk hc
  have HP := Aside0.mk hp
  have HN := Aside0.mk (show P.length ≤ 100 ∧ c.sw.length ≤ 100 ∧ c.pac.length ≤ 100 from ⟨hlp, hls, hlq⟩)
  clear hc hp hlp hls hlq
  obtain ⟨X2, y2, X3, y3, X4, y4⟩ := a
  unfold csV
  go_enter Try.func12, Try.ntmps12
  go_wp2_with (first
    | ((with_reducible refine gate_dst (N := 2) rfl ?_); go_must (refine box_event ?hg (N := 2) ?hd (cs := #[.int .i64 c.th, .int .i64 c.cl, .slice X2 c.acts.length y2, .slice X3 c.pac.length y3, .slice X4 c.sw.length y4, .int .i64 c.en]) (t := 28) ?hr ?_; (case hd => rfl); (case hg => rfl); (case hr => first | (go_simp; done) | (go_simp; rfl)); intro g2 hg w1 hbox hb; have BK2 := Aside0.mk hbox; have HG2 := Aside0.mk hg; have HB1 := Aside0.mk hb; clear hbox hb hg))
    | ((with_reducible refine gate_dst (N := 3) rfl ?_); go_must (refine box_event ?hg (N := 3) ?hd (cs := #[.slice Ap P.length cp]) (t := 55) ?hr ?_; (case hd => rfl); (case hg => rfl); (case hr => first | (go_simp; done) | (go_simp; rfl)); intro g3 hg w2 hbox hb; have BK3 := Aside0.mk hbox; have nBK2 := Aside0.mk (blk_below BK2.out hb); have HG3 := Aside0.mk (show w.heap.size ≤ g3 from by rw [hg]; exact HB1.out.size); have HB2 := Aside0.mk (below_step HB1.out hb); have x5 : w2.cell? ⟨g2, 5, none⟩ = some (.int .i64 c.en) := (blk_cell nBK2.out 5).trans rfl; clear hbox hb hg HB1 BK2; have BK2 := nBK2; clear nBK2))
    | ((with_reducible refine gate_dst (N := 14) rfl ?_); go_must (refine lit_event ?hg (N := 14) ?hd (cs := #[.int .i64 0, .int .i64 c.en]) (t := 3) (n := 2) ?hr ?_; (case hd => rfl); (case hg => rfl); (case hr => first | (go_simp; done) | (go_simp; rfl)); intro g14 hg w3 hbox hb; have BK14 := Aside0.mk hbox; have HG14 := Aside0.mk (Nat.le_of_eq hg.symm); have HW3 := Aside0.mk hb; clear hbox hb hg x5))
    | ((with_reducible refine gate_dst (N := 5) rfl ?_); go_must (refine box_event ?hg (N := 5) ?hd (cs := #[.slice none 0 0]) (t := 29) ?hr ?_; (case hd => rfl); (case hg => rfl); (case hr => first | (go_simp; done) | (go_simp; rfl)); intro g5 hg w4 hbox hb; have BK5 := Aside0.mk hbox; have nBK14 := Aside0.mk (blk_below BK14.out hb); have HG5 := Aside0.mk (show w2.heap.size ≤ g5 ∧ g14 ≠ g5 from ⟨by rw [hg]; exact HW3.out.size, by rw [hg]; exact fun e => absurd (blk_lt BK14.out) (by omega)⟩); have HW4 := Aside0.mk (below_step HW3.out hb); have x5 : w4.cell? ⟨g5, 0, none⟩ = some (.slice none 0 0) := (blk_cell hbox 0).trans rfl; have x6 := blk_frozen hbox 0; clear hbox hb hg BK14 HW3; have BK14 := nBK14; clear nBK14))
    | ((with_reducible refine gate_store (t := 29) (p := 5) rfl ?_); go_must (refine store_event (t := 29) (p := 5) (v := ?vo_w5_5) (w1 := (w4.setCell ⟨g5, 0, none⟩ (.slice (some ⟨g14, 0, none⟩) 2 2))) ?hg ?ho ?hn ?hr ?_; (case ho => rfl); (case hg => rfl); (case hn => rfl); (case hr => first | (go_simp; done) | (go_simp; rfl)); intro w5 hw; have nBK5 := Aside0.mk (show w5.heap[g5]? = some (.cells #[.slice (some ⟨g14, 0, none⟩) 2 2] 29 (0, 0)) from (by rw [hw]; exact put_one BK5.out)); have HO := Aside0.mk (show Kd.R (Kd.int .i64) 3 w5 w2.heap.size (fun k => k ≠ g5) (.slice (some ⟨g14, 0, none⟩) 2 2) [0, c.en] from (by rw [hw]; exact lit_two (blk_far BK14.out HG5.out.2 _) HG14.out HG5.out.2)); have HWB := Aside0.mk (show Below w2.heap.size w2 w5 from (by rw [hw]; exact HW4.out.setCell HG5.out.1 _)); have x7 : w5.cell? ⟨g3, 0, none⟩ = some (.slice Ap P.length cp) := (Below.cell HWB.out (p := ⟨g3, 0, none⟩) (blk_lt BK3.out)).trans ((blk_cell BK3.out 0).trans rfl); clear hw BK5 BK14 HW4 x5 x6; have BK5 := nBK5; clear nBK5)))
  clear x7
  have HST := Aside0.mk (show CsC w2 c ⟨X2, y2, X3, y3, X4, y4⟩ ∧ PhC w2 P Ap cp from ⟨HC.out.below HB2.out, HP.out.below HB2.out⟩)
  go_loopg [7, 17] P.length (fun kq v7 v17 wr => ∃ (k n co : Nat) (l : List Int) (Ao : Option Addr), v17 = .int .i64 (k : Int) ∧ Aside0 (k ≤ P.length ∧ l.length = n ∧ n ≤ 2 + 1 * k ∧ kq = P.length - k) ∧ Aside0 (l = chP c P k) ∧ Aside0 (wr.heap[g5]? = some (.cells #[.slice Ao n co] 29 (0, 0))) ∧ Aside0 (Kd.R (Kd.int .i64) 3 wr w2.heap.size (fun k => k ≠ g5) (.slice Ao n co) l) ∧ Aside0 (Below w2.heap.size w2 wr))
  case atStart => exact ⟨0, 2, 2, [0, c.en], some ⟨g14, 0, none⟩, rfl, ⟨by simp⟩, ⟨by unfold chP; rfl⟩, BK5, HO, HWB⟩
  case round =>
    clear HO BK5 HWB
    obtain ⟨k, n, co, l, Ao, rfl, HI, HL, BK5, HO, HWB⟩ := hrel
    by_cases hk : k < P.length
    · have HK := Aside0.mk hk
      obtain ⟨ad, rfl, f0, f1, f2⟩ := at_T77 (Kd.C_below (show Kd.C _ w2 _ _ _ from HST.out.2.1) HWB.out) (k : Int) (by omega) (by omega)
      simp only [Int.toNat_natCast] at f0 f1 f2
      have HSC := Aside0.mk (chP_succ c P k hk)
      obtain ⟨q, hq⟩ : ∃ q, rd_T77 P (k : Int) = q := ⟨_, rfl⟩
      rw [hq] at f0 f1 f2 HSC
      have p1 := eq_true (show (k : Int) < (P.length : Int) by omega)
      have p2 := eq_true hk
      have q1 : wrap64 ((k : Int) + 1) = (k : Int) + 1 := by have := HN.out; unfold wrap64; omega
      clear hq hk
      go_wp2_with (first
        | ((with_reducible refine gate_dst (N := 7) rfl ?_); go_must (refine box_event ?hg (N := 7) ?hd (cs := #[.int .i64 0, .int .i64 0, .int .i64 0]) (t := 77) ?hr ?_; (case hd => rfl); (case hg => rfl); (case hr => first | (go_simp; done) | (go_simp; rfl)); intro g7 hg u1 hbox hb; have BKB := Aside0.mk hbox; have nHO := Aside0.mk (Kd.R_below (Kd.R_elderB HO.out g7 (Nat.le_of_eq hg.symm)) hb); have nBK5 := Aside0.mk (blk_below BK5.out hb); have HGB := Aside0.mk (show w2.heap.size ≤ g7 ∧ g5 ≠ g7 from ⟨by rw [hg]; exact HWB.out.size, by rw [hg]; exact fun e => absurd (blk_lt BK5.out) (by omega)⟩); have nHWB := Aside0.mk (HWB.out.trans (hb.mono HWB.out.size)); have y0 : u1.cell? ⟨g7, 0, none⟩ = some (.int .i64 0) := (blk_cell hbox 0).trans rfl; have z0 := blk_frozen hbox 0; have y1 : u1.cell? ⟨g7, 1, none⟩ = some (.int .i64 0) := (blk_cell hbox 1).trans rfl; have z1 := blk_frozen hbox 1; have y2 : u1.cell? ⟨g7, 2, none⟩ = some (.int .i64 0) := (blk_cell hbox 2).trans rfl; have z2 := blk_frozen hbox 2; clear HO; clear BK5; clear HWB; have HO := nHO; clear nHO; have BK5 := nBK5; clear nBK5; have HWB := nHWB; clear nHWB; clear hbox hb hg f0 f1 f2))
        | ((with_reducible refine gate_store (t := 77) (p := 7) rfl ?_); go_must (refine store_event (t := 77) (p := 7) (v := ?vo_u2_7) (w1 := (((u1.setCell ⟨g7, 0, none⟩ (.int .i64 q.f0)).setCell ⟨g7, 1, none⟩ (.int .i64 q.f1)).setCell ⟨g7, 2, none⟩ (.int .i64 q.f2))) ?hg ?ho ?hn ?hr ?_; (case ho => rfl); (case hg => rfl); (case hn => rfl); (case hr => first | (go_simp; done) | (go_simp; rfl)); intro u2 hw; have nBKB := Aside0.mk (show u2.heap[g7]? = some (.cells #[.int .i64 q.f0, .int .i64 q.f1, .int .i64 q.f2] 77 (0, 0)) from (by rw [hw]; exact put_three BKB.out)); have nHO := Aside0.mk (show Kd.R (Kd.int .i64) 3 u2 w2.heap.size (fun k => k ≠ g5) (.slice Ao n co) l from (by rw [hw]; exact Kd.R_mono (Kd.R_step HO.out (fun k hk _ => ((Below.heap_setCell _ ⟨g7, 2, none⟩ _ k (show k ≠ g7 from hk.2)).trans ((Below.heap_setCell _ ⟨g7, 1, none⟩ _ k (show k ≠ g7 from hk.2)).trans (Below.heap_setCell _ ⟨g7, 0, none⟩ _ k (show k ≠ g7 from hk.2)))))) (fun k hk => hk.1))); have nBK5 := Aside0.mk (show u2.heap[g5]? = some (.cells #[.slice Ao n co] 29 (0, 0)) from (by rw [hw]; exact (blk_far (blk_far (blk_far BK5.out (p := ⟨g7, 0, none⟩) HGB.out.2 _) (p := ⟨g7, 1, none⟩) HGB.out.2 _) (p := ⟨g7, 2, none⟩) HGB.out.2 _))); have nHWB := Aside0.mk (show Below w2.heap.size w2 u2 from (by rw [hw]; exact (Below.setCell (Below.setCell (Below.setCell HWB.out HGB.out.1 _) HGB.out.1 _) HGB.out.1 _))); clear BKB; clear HO; clear BK5; clear HWB; have BKB := nBKB; clear nBKB; have HO := nHO; clear nHO; have BK5 := nBK5; clear nBK5; have HWB := nHWB; clear nHWB; have x5 : u2.cell? ⟨g5, 0, none⟩ = some (.slice Ao n co) := (blk_cell BK5.out 0).trans rfl; have e0 : u2.cell? ⟨g7, 0, none⟩ = some (.int .i64 q.f0) := (blk_cell BKB.out 0).trans rfl; have e1 : u2.cell? ⟨g7, 1, none⟩ = some (.int .i64 q.f1) := (blk_cell BKB.out 1).trans rfl; have e2 : u2.cell? ⟨g7, 2, none⟩ = some (.int .i64 q.f2) := (blk_cell BKB.out 2).trans rfl; clear hw y0 z0 y1 z1 y2 z2))
        | ((with_reducible refine gate_builtin (b := .append) (xs := #[.tmp 21, .tmp 24]) rfl ?_); go_must (at_builtin; refine Kd.R_append (Kd.int .i64) (w0 := w2) w2.heap.size rfl (.tmp 21) (.tmp 24) 29 3 (.int .i64 0) 8 rfl Try.underlying29 info3 rfl (by decide) (by decide) (.slice Ao n co) l q.f1 [.int .i64 (q.f1)] (fun k => k ≠ g5) (fun _ => False) rfl rfl (kZ_mkM _ _ _ _) (fun _ h => h.elim) (fun k hk e => absurd (blk_lt BK5.out) (by rw [← e]; exact Nat.not_lt.2 hk)) HO.out HWB.out HWB.out.size ?aL ?_; (case aL => have h_ := HI.out; have := HN.out; have := HK.out; rw [h_.2.1]; omega); intro v2 u4 hr2 hb2 hg2 hat2; have nHO := Aside0.mk hr2; have nBK5 := Aside0.mk ((hg2.block g5 (blk_lt BK5.out) (fun e => HO.out.1 g5 e.symm rfl)).trans BK5.out); have nHWB := Aside0.mk hb2; clear HO BK5 HWB hr2 hb2 hg2 hat2 x5; have HO := nHO; have BK5 := nBK5; have HWB := nHWB; clear nHO nBK5 nHWB; obtain ⟨A2, c2, hv2⟩ := Kd.R_slice HO.out; rw [List.length_append, List.length_singleton, HI.out.2.1] at hv2; subst hv2; have x5 : u4.cell? ⟨g5, 0, none⟩ = some (.slice Ao n co) := (blk_cell BK5.out 0).trans rfl; have x6 := blk_frozen BK5.out 0))
        | ((with_reducible refine gate_store (t := 29) (p := 5) rfl ?_); go_must (refine store_event (t := 29) (p := 5) (v := ?vo_u5_7) (w1 := (u4.setCell ⟨g5, 0, none⟩ (.slice A2 (n + 1) c2))) ?hg ?ho ?hn ?hr ?_; (case ho => rfl); (case hg => rfl); (case hn => rfl); (case hr => first | (go_simp; done) | (go_simp; rfl)); intro u5 hw; have nBK5 := Aside0.mk (show u5.heap[g5]? = some (.cells #[.slice A2 (n + 1) c2] 29 (0, 0)) from (by rw [hw]; exact put_one BK5.out)); have nHO := Aside0.mk (show Kd.R (Kd.int .i64) 3 u5 w2.heap.size (fun k => k ≠ g5) (.slice A2 (n + 1) c2) (l ++ [q.f1]) from (by rw [hw]; exact Kd.R_far HO.out (fun k hk => hk) _)); have nHWB := Aside0.mk (show Below w2.heap.size w2 u5 from (by rw [hw]; exact HWB.out.setCell HG5.out.1 _)); clear BK5; clear HO; clear HWB; have BK5 := nBK5; clear nBK5; have HO := nHO; clear nHO; have HWB := nHWB; clear nHWB; clear hw x5 x6)))
      all_goals
        go_roundg (P.length - (k + 1))
        case measure => have := HI.out; have := HK.out; omega
        case rel => exact ⟨k + 1, n + 1, c2, l ++ [q.f1], A2, by first | rfl | (rw [q1]; rfl), ⟨⟨by have := HK.out; omega, by rw [List.length_append, HI.out.2.1]; rfl, by have h_ := HI.out; omega, rfl⟩⟩, ⟨by rw [HSC.out, ← HL.out]⟩, BK5, HO, HWB⟩
    · obtain rfl : k = P.length := by have := HI.out; omega
      have p1 := eq_false (show ¬ (P.length : Int) < (P.length : Int) by omega)
      clear hk
      have HI1 := Aside0.mk (show n ≤ 102 from by have := HI.out; have := HN.out; omega)
      have HLN := Aside0.mk HI.out.2.1
      have x7 : wr.cell? ⟨g2, 3, none⟩ = some (.slice X3 c.pac.length y3) := (Below.cell HWB.out (p := ⟨g2, 3, none⟩) (blk_lt BK2.out)).trans ((blk_cell BK2.out 3).trans rfl)
      clear p1
      go_wp2
      clear x7 HI
      go_loopg [9, 30] c.pac.length (fun kq v9 v30 wr => ∃ (k n co : Nat) (l : List Int) (Ao : Option Addr), v30 = .int .i64 (k : Int) ∧ Aside0 (k ≤ c.pac.length ∧ l.length = n ∧ n ≤ 102 + 1 * k ∧ kq = c.pac.length - k) ∧ Aside0 (l = chQ c P k) ∧ Aside0 (wr.heap[g5]? = some (.cells #[.slice Ao n co] 29 (0, 0))) ∧ Aside0 (Kd.R (Kd.int .i64) 3 wr w2.heap.size (fun k => k ≠ g5) (.slice Ao n co) l) ∧ Aside0 (Below w2.heap.size w2 wr))
      case atStart => exact ⟨0, _, _, _, _, rfl, ⟨Nat.zero_le _, HLN.out, HI1.out, rfl⟩, ⟨by rw [HL.out]; simp [chQ]⟩, BK5, HO, HWB⟩
      case round =>
        clear HO BK5 HWB
        obtain ⟨k, n, co, l, Ao, rfl, HI, HL, BK5, HO, HWB⟩ := hrel
        by_cases hk : k < c.pac.length
        · have HK := Aside0.mk hk
          obtain ⟨ad, rfl, f0, f1⟩ := at_T52 (Kd.C_below (show Kd.C _ w2 _ _ _ from HST.out.1.2.2.1) HWB.out) (k : Int) (by omega) (by omega)
          simp only [Int.toNat_natCast] at f0 f1
          have HSC := Aside0.mk (chQ_succ c P k hk)
          obtain ⟨q, hq⟩ : ∃ q, rd_T52 c.pac (k : Int) = q := ⟨_, rfl⟩
          rw [hq] at f0 f1 HSC
          have p1 := eq_true (show (k : Int) < (c.pac.length : Int) by omega)
          have p2 := eq_true hk
          have q1 : wrap64 ((k : Int) + 1) = (k : Int) + 1 := by have := HN.out; unfold wrap64; omega
          clear hq hk
          go_wp2_with (first
            | ((with_reducible refine gate_dst (N := 9) rfl ?_); go_must (refine box_event ?hg (N := 9) ?hd (cs := #[.int .i64 0, .int .i64 0]) (t := 52) ?hr ?_; (case hd => rfl); (case hg => rfl); (case hr => first | (go_simp; done) | (go_simp; rfl)); intro g9 hg u1 hbox hb; have BKB := Aside0.mk hbox; have nHO := Aside0.mk (Kd.R_below (Kd.R_elderB HO.out g9 (Nat.le_of_eq hg.symm)) hb); have nBK5 := Aside0.mk (blk_below BK5.out hb); have HGB := Aside0.mk (show w2.heap.size ≤ g9 ∧ g5 ≠ g9 from ⟨by rw [hg]; exact HWB.out.size, by rw [hg]; exact fun e => absurd (blk_lt BK5.out) (by omega)⟩); have nHWB := Aside0.mk (HWB.out.trans (hb.mono HWB.out.size)); have y0 : u1.cell? ⟨g9, 0, none⟩ = some (.int .i64 0) := (blk_cell hbox 0).trans rfl; have z0 := blk_frozen hbox 0; have y1 : u1.cell? ⟨g9, 1, none⟩ = some (.int .i64 0) := (blk_cell hbox 1).trans rfl; have z1 := blk_frozen hbox 1; clear HO; clear BK5; clear HWB; have HO := nHO; clear nHO; have BK5 := nBK5; clear nBK5; have HWB := nHWB; clear nHWB; clear hbox hb hg f0 f1))
            | ((with_reducible refine gate_store (t := 52) (p := 9) rfl ?_); go_must (refine store_event (t := 52) (p := 9) (v := ?vo_u2_9) (w1 := ((u1.setCell ⟨g9, 0, none⟩ (.int .i64 q.f0)).setCell ⟨g9, 1, none⟩ (.int .i64 q.f1))) ?hg ?ho ?hn ?hr ?_; (case ho => rfl); (case hg => rfl); (case hn => rfl); (case hr => first | (go_simp; done) | (go_simp; rfl)); intro u2 hw; have nBKB := Aside0.mk (show u2.heap[g9]? = some (.cells #[.int .i64 q.f0, .int .i64 q.f1] 52 (0, 0)) from (by rw [hw]; exact put_two BKB.out)); have nHO := Aside0.mk (show Kd.R (Kd.int .i64) 3 u2 w2.heap.size (fun k => k ≠ g5) (.slice Ao n co) l from (by rw [hw]; exact Kd.R_mono (Kd.R_step HO.out (fun k hk _ => ((Below.heap_setCell _ ⟨g9, 1, none⟩ _ k (show k ≠ g9 from hk.2)).trans (Below.heap_setCell _ ⟨g9, 0, none⟩ _ k (show k ≠ g9 from hk.2))))) (fun k hk => hk.1))); have nBK5 := Aside0.mk (show u2.heap[g5]? = some (.cells #[.slice Ao n co] 29 (0, 0)) from (by rw [hw]; exact (blk_far (blk_far BK5.out (p := ⟨g9, 0, none⟩) HGB.out.2 _) (p := ⟨g9, 1, none⟩) HGB.out.2 _))); have nHWB := Aside0.mk (show Below w2.heap.size w2 u2 from (by rw [hw]; exact (Below.setCell (Below.setCell HWB.out HGB.out.1 _) HGB.out.1 _))); clear BKB; clear HO; clear BK5; clear HWB; have BKB := nBKB; clear nBKB; have HO := nHO; clear nHO; have BK5 := nBK5; clear nBK5; have HWB := nHWB; clear nHWB; have x5 : u2.cell? ⟨g5, 0, none⟩ = some (.slice Ao n co) := (blk_cell BK5.out 0).trans rfl; have e0 : u2.cell? ⟨g9, 0, none⟩ = some (.int .i64 q.f0) := (blk_cell BKB.out 0).trans rfl; have e1 : u2.cell? ⟨g9, 1, none⟩ = some (.int .i64 q.f1) := (blk_cell BKB.out 1).trans rfl; clear hw y0 z0 y1 z1))
            | ((with_reducible refine gate_builtin (b := .append) (xs := #[.tmp 34, .tmp 37]) rfl ?_); go_must (at_builtin; refine Kd.R_append (Kd.int .i64) (w0 := w2) w2.heap.size rfl (.tmp 34) (.tmp 37) 29 3 (.int .i64 0) 8 rfl Try.underlying29 info3 rfl (by decide) (by decide) (.slice Ao n co) l q.f0 [.int .i64 (q.f0)] (fun k => k ≠ g5) (fun _ => False) rfl rfl (kZ_mkM _ _ _ _) (fun _ h => h.elim) (fun k hk e => absurd (blk_lt BK5.out) (by rw [← e]; exact Nat.not_lt.2 hk)) HO.out HWB.out HWB.out.size ?aL ?_; (case aL => have h_ := HI.out; have := HN.out; have := HK.out; rw [h_.2.1]; omega); intro v2 u4 hr2 hb2 hg2 hat2; have nHO := Aside0.mk hr2; have nBK5 := Aside0.mk ((hg2.block g5 (blk_lt BK5.out) (fun e => HO.out.1 g5 e.symm rfl)).trans BK5.out); have nHWB := Aside0.mk hb2; clear HO BK5 HWB hr2 hb2 hg2 hat2 x5; have HO := nHO; have BK5 := nBK5; have HWB := nHWB; clear nHO nBK5 nHWB; obtain ⟨A2, c2, hv2⟩ := Kd.R_slice HO.out; rw [List.length_append, List.length_singleton, HI.out.2.1] at hv2; subst hv2; have x5 : u4.cell? ⟨g5, 0, none⟩ = some (.slice Ao n co) := (blk_cell BK5.out 0).trans rfl; have x6 := blk_frozen BK5.out 0))
            | ((with_reducible refine gate_store (t := 29) (p := 5) rfl ?_); go_must (refine store_event (t := 29) (p := 5) (v := ?vo_u5_9) (w1 := (u4.setCell ⟨g5, 0, none⟩ (.slice A2 (n + 1) c2))) ?hg ?ho ?hn ?hr ?_; (case ho => rfl); (case hg => rfl); (case hn => rfl); (case hr => first | (go_simp; done) | (go_simp; rfl)); intro u5 hw; have nBK5 := Aside0.mk (show u5.heap[g5]? = some (.cells #[.slice A2 (n + 1) c2] 29 (0, 0)) from (by rw [hw]; exact put_one BK5.out)); have nHO := Aside0.mk (show Kd.R (Kd.int .i64) 3 u5 w2.heap.size (fun k => k ≠ g5) (.slice A2 (n + 1) c2) (l ++ [q.f0]) from (by rw [hw]; exact Kd.R_far HO.out (fun k hk => hk) _)); have nHWB := Aside0.mk (show Below w2.heap.size w2 u5 from (by rw [hw]; exact HWB.out.setCell HG5.out.1 _)); clear BK5; clear HO; clear HWB; have BK5 := nBK5; clear nBK5; have HO := nHO; clear nHO; have HWB := nHWB; clear nHWB; clear hw x5 x6)))
          all_goals
            go_roundg (c.pac.length - (k + 1))
            case measure => have := HI.out; have := HK.out; omega
            case rel => exact ⟨k + 1, n + 1, c2, l ++ [q.f0], A2, by first | rfl | (rw [q1]; rfl), ⟨⟨by have := HK.out; omega, by rw [List.length_append, HI.out.2.1]; rfl, by have h_ := HI.out; omega, rfl⟩⟩, ⟨by rw [HSC.out, ← HL.out]⟩, BK5, HO, HWB⟩
        · obtain rfl : k = c.pac.length := by have := HI.out; omega
          have p1 := eq_false (show ¬ (c.pac.length : Int) < (c.pac.length : Int) by omega)
          clear hk
          have HI1 := Aside0.mk (show n ≤ 202 from by have := HI.out; have := HN.out; omega)
          have HLN := Aside0.mk HI.out.2.1
          have x7 : wr.cell? ⟨g2, 4, none⟩ = some (.slice X4 c.sw.length y4) := (Below.cell HWB.out (p := ⟨g2, 4, none⟩) (blk_lt BK2.out)).trans ((blk_cell BK2.out 4).trans rfl)
          clear p1
          go_wp2
          clear x7 HI
          go_loopg [11, 43] c.sw.length (fun kq v11 v43 wr => ∃ (k n co : Nat) (l : List Int) (Ao : Option Addr), v43 = .int .i64 (k : Int) ∧ Aside0 (k ≤ c.sw.length ∧ l.length = n ∧ n ≤ 202 + 2 * k ∧ kq = c.sw.length - k) ∧ Aside0 (l = chS c P k) ∧ Aside0 (wr.heap[g5]? = some (.cells #[.slice Ao n co] 29 (0, 0))) ∧ Aside0 (Kd.R (Kd.int .i64) 3 wr w2.heap.size (fun k => k ≠ g5) (.slice Ao n co) l) ∧ Aside0 (Below w2.heap.size w2 wr))
          case atStart => exact ⟨0, _, _, _, _, rfl, ⟨Nat.zero_le _, HLN.out, HI1.out, rfl⟩, ⟨by rw [HL.out]; simp [chS]⟩, BK5, HO, HWB⟩
          case round =>
            clear HO BK5 HWB
            obtain ⟨k, n, co, l, Ao, rfl, HI, HL, BK5, HO, HWB⟩ := hrel
            by_cases hk : k < c.sw.length
            · have HK := Aside0.mk hk
              obtain ⟨ad, rfl, f0, f1, f2⟩ := at_T54 (Kd.C_below (show Kd.C _ w2 _ _ _ from HST.out.1.2.2.2.2.1) HWB.out) (k : Int) (by omega) (by omega)
              simp only [Int.toNat_natCast] at f0 f1 f2
              have HSC := Aside0.mk (chS_succ c P k hk)
              obtain ⟨q, hq⟩ : ∃ q, rd_T54 c.sw (k : Int) = q := ⟨_, rfl⟩
              rw [hq] at f0 f1 f2 HSC
              have p1 := eq_true (show (k : Int) < (c.sw.length : Int) by omega)
              have p2 := eq_true hk
              have q1 : wrap64 ((k : Int) + 1) = (k : Int) + 1 := by have := HN.out; unfold wrap64; omega
              clear hq hk
              go_wp2_with (first
                | ((with_reducible refine gate_dst (N := 11) rfl ?_); go_must (refine box_event ?hg (N := 11) ?hd (cs := #[.int .i64 0, .int .i64 0, .int .i64 0]) (t := 54) ?hr ?_; (case hd => rfl); (case hg => rfl); (case hr => first | (go_simp; done) | (go_simp; rfl)); intro g11 hg u1 hbox hb; have BKB := Aside0.mk hbox; have nHO := Aside0.mk (Kd.R_below (Kd.R_elderB HO.out g11 (Nat.le_of_eq hg.symm)) hb); have nBK5 := Aside0.mk (blk_below BK5.out hb); have HGB := Aside0.mk (show w2.heap.size ≤ g11 ∧ g5 ≠ g11 from ⟨by rw [hg]; exact HWB.out.size, by rw [hg]; exact fun e => absurd (blk_lt BK5.out) (by omega)⟩); have nHWB := Aside0.mk (HWB.out.trans (hb.mono HWB.out.size)); have y0 : u1.cell? ⟨g11, 0, none⟩ = some (.int .i64 0) := (blk_cell hbox 0).trans rfl; have z0 := blk_frozen hbox 0; have y1 : u1.cell? ⟨g11, 1, none⟩ = some (.int .i64 0) := (blk_cell hbox 1).trans rfl; have z1 := blk_frozen hbox 1; have y2 : u1.cell? ⟨g11, 2, none⟩ = some (.int .i64 0) := (blk_cell hbox 2).trans rfl; have z2 := blk_frozen hbox 2; clear HO; clear BK5; clear HWB; have HO := nHO; clear nHO; have BK5 := nBK5; clear nBK5; have HWB := nHWB; clear nHWB; clear hbox hb hg f0 f1 f2))
                | ((with_reducible refine gate_store (t := 54) (p := 11) rfl ?_); go_must (refine store_event (t := 54) (p := 11) (v := ?vo_u2_11) (w1 := (((u1.setCell ⟨g11, 0, none⟩ (.int .i64 q.f0)).setCell ⟨g11, 1, none⟩ (.int .i64 q.f1)).setCell ⟨g11, 2, none⟩ (.int .i64 q.f2))) ?hg ?ho ?hn ?hr ?_; (case ho => rfl); (case hg => rfl); (case hn => rfl); (case hr => first | (go_simp; done) | (go_simp; rfl)); intro u2 hw; have nBKB := Aside0.mk (show u2.heap[g11]? = some (.cells #[.int .i64 q.f0, .int .i64 q.f1, .int .i64 q.f2] 54 (0, 0)) from (by rw [hw]; exact put_three BKB.out)); have nHO := Aside0.mk (show Kd.R (Kd.int .i64) 3 u2 w2.heap.size (fun k => k ≠ g5) (.slice Ao n co) l from (by rw [hw]; exact Kd.R_mono (Kd.R_step HO.out (fun k hk _ => ((Below.heap_setCell _ ⟨g11, 2, none⟩ _ k (show k ≠ g11 from hk.2)).trans ((Below.heap_setCell _ ⟨g11, 1, none⟩ _ k (show k ≠ g11 from hk.2)).trans (Below.heap_setCell _ ⟨g11, 0, none⟩ _ k (show k ≠ g11 from hk.2)))))) (fun k hk => hk.1))); have nBK5 := Aside0.mk (show u2.heap[g5]? = some (.cells #[.slice Ao n co] 29 (0, 0)) from (by rw [hw]; exact (blk_far (blk_far (blk_far BK5.out (p := ⟨g11, 0, none⟩) HGB.out.2 _) (p := ⟨g11, 1, none⟩) HGB.out.2 _) (p := ⟨g11, 2, none⟩) HGB.out.2 _))); have nHWB := Aside0.mk (show Below w2.heap.size w2 u2 from (by rw [hw]; exact (Below.setCell (Below.setCell (Below.setCell HWB.out HGB.out.1 _) HGB.out.1 _) HGB.out.1 _))); clear BKB; clear HO; clear BK5; clear HWB; have BKB := nBKB; clear nBKB; have HO := nHO; clear nHO; have BK5 := nBK5; clear nBK5; have HWB := nHWB; clear nHWB; have x5 : u2.cell? ⟨g5, 0, none⟩ = some (.slice Ao n co) := (blk_cell BK5.out 0).trans rfl; have e0 : u2.cell? ⟨g11, 0, none⟩ = some (.int .i64 q.f0) := (blk_cell BKB.out 0).trans rfl; have e1 : u2.cell? ⟨g11, 1, none⟩ = some (.int .i64 q.f1) := (blk_cell BKB.out 1).trans rfl; have e2 : u2.cell? ⟨g11, 2, none⟩ = some (.int .i64 q.f2) := (blk_cell BKB.out 2).trans rfl; have xe : u2.cell? ⟨g2, 5, none⟩ = some (.int .i64 c.en) := (Below.cell HWB.out (p := ⟨g2, 5, none⟩) (blk_lt BK2.out)).trans ((blk_cell BK2.out 5).trans rfl); clear hw y0 z0 y1 z1 y2 z2))
                | ((with_reducible refine gate_dst (N := 58) rfl ?_); go_must (refine lit_event ?hg (N := 58) ?hd (cs := #[.int .i64 (q.f0), .int .i64 ((min c.en (wrap64 (q.f0 + q.f2))))]) (t := 3) (n := 2) ?hr ?_; (case hd => rfl); (case hg => rfl); (case hr => first | (go_simp; done) | (go_simp; rfl)); intro gl hg u3 hbox hb; have BKL := Aside0.mk hbox; have nHO := Aside0.mk (Kd.R_below HO.out hb); have nBK5 := Aside0.mk (blk_below BK5.out hb); have nHWB := Aside0.mk (HWB.out.trans (hb.mono HWB.out.size)); clear hbox hb hg x5 xe; clear HO; clear BK5; clear HWB; have HO := nHO; clear nHO; have BK5 := nBK5; clear nBK5; have HWB := nHWB; clear nHWB; have x5 : u3.cell? ⟨g5, 0, none⟩ = some (.slice Ao n co) := (blk_cell BK5.out 0).trans rfl))
                | ((with_reducible refine gate_builtin (b := .append) (xs := #[.tmp 47, .tmp 58]) rfl ?_); go_must (at_builtin; refine Kd.R_append_rows (Kd.int .i64) (w0 := w2) w2.heap.size rfl (.tmp 47) (.tmp 58) 29 3 (.int .i64 0) 8 rfl Try.underlying29 info3 rfl (by decide) (by decide) (.slice Ao n co) l [q.f0, (min c.en (wrap64 (q.f0 + q.f2)))] (some ⟨gl, 0, none⟩) 2 2 (fun k => k ≠ g5) (fun _ => False) rfl rfl HO.out (two_C BKL.out) kZ_KM (fun _ h => h.elim) (fun k hk e => absurd (blk_lt BK5.out) (by rw [← e]; exact Nat.not_lt.2 hk)) HWB.out HWB.out.size ?aL ?_; (case aL => have h_ := HI.out; have := HN.out; have := HK.out; show (l.length + 2) * 8 ≤ 140737488355328; rw [h_.2.1]; omega); intro v2 u4 hr2 hb2 hg2 hat2; have nHO := Aside0.mk hr2; have nBK5 := Aside0.mk ((hg2.block g5 (blk_lt BK5.out) (fun e => HO.out.1 g5 e.symm rfl)).trans BK5.out); have nHWB := Aside0.mk hb2; clear HO BK5 HWB hr2 hb2 hg2 hat2 x5; have HO := nHO; have BK5 := nBK5; have HWB := nHWB; clear nHO nBK5 nHWB; obtain ⟨A2, c2, hv2⟩ := Kd.R_slice HO.out; rw [List.length_append, HI.out.2.1] at hv2; simp only [List.length_cons, List.length_nil, Nat.reduceAdd] at hv2; subst hv2; have x5 : u4.cell? ⟨g5, 0, none⟩ = some (.slice Ao n co) := (blk_cell BK5.out 0).trans rfl; have x6 := blk_frozen BK5.out 0))
                | ((with_reducible refine gate_store (t := 29) (p := 5) rfl ?_); go_must (refine store_event (t := 29) (p := 5) (v := ?vo_u5_11) (w1 := (u4.setCell ⟨g5, 0, none⟩ (.slice A2 (n + 2) c2))) ?hg ?ho ?hn ?hr ?_; (case ho => rfl); (case hg => rfl); (case hn => rfl); (case hr => first | (go_simp; done) | (go_simp; rfl)); intro u5 hw; have nBK5 := Aside0.mk (show u5.heap[g5]? = some (.cells #[.slice A2 (n + 2) c2] 29 (0, 0)) from (by rw [hw]; exact put_one BK5.out)); have nHO := Aside0.mk (show Kd.R (Kd.int .i64) 3 u5 w2.heap.size (fun k => k ≠ g5) (.slice A2 (n + 2) c2) (l ++ [q.f0, (min c.en (wrap64 (q.f0 + q.f2)))]) from (by rw [hw]; exact Kd.R_far HO.out (fun k hk => hk) _)); have nHWB := Aside0.mk (show Below w2.heap.size w2 u5 from (by rw [hw]; exact HWB.out.setCell HG5.out.1 _)); clear BK5; clear HO; clear HWB; have BK5 := nBK5; clear nBK5; have HO := nHO; clear nHO; have HWB := nHWB; clear nHWB; clear hw x5 x6)))
              all_goals
                go_roundg (c.sw.length - (k + 1))
                case measure => have := HI.out; have := HK.out; omega
                case rel => exact ⟨k + 1, n + 2, c2, l ++ [q.f0, (min c.en (wrap64 (q.f0 + q.f2)))], A2, by first | rfl | (rw [q1]; rfl), ⟨⟨by have := HK.out; omega, by rw [List.length_append, HI.out.2.1]; rfl, by have h_ := HI.out; omega, rfl⟩⟩, ⟨by rw [HSC.out, ← HL.out]⟩, BK5, HO, HWB⟩
            · obtain rfl : k = c.sw.length := by have := HI.out; omega
              have p1 := eq_false (show ¬ (c.sw.length : Int) < (c.sw.length : Int) by omega)
              clear hk
              have x5 : wr.cell? ⟨g5, 0, none⟩ = some (.slice Ao n co) := (blk_cell BK5.out 0).trans rfl
              have HLN2 := HI.out.2.1
              have HNN := Aside0.mk (show 0 < n ∧ n ≤ 1000 from by have h_ := HI.out; have := HN.out; have e_ := HLN2; rw [HL.out] at e_; simp [chS, chQ, chP] at e_; omega)
              clear p1 HI
              go_wp2_with (first
                | (go_at_call 23; go_must (refine (ordered_calls w2.heap.size (fun k => k ≠ g5) Ao n co l _ HO.out HLN2 HNN.out.1 HNN.out.2).mono ?_; rintro e u6 ⟨rfl, hr, hg⟩; have nHO := Aside0.mk hr; have nBK5 := Aside0.mk ((hg.block g5 (blk_lt BK5.out) (fun e => HO.out.1 g5 e.symm rfl)).trans BK5.out); have nHWB := Aside0.mk (HWB.out.grown hg HWB.out.size (fun k e => Kd.R_base HO.out k e)); clear HO BK5 HWB hr hg x5; have HO := nHO; have BK5 := nBK5; have HWB := nHWB; clear nHO nBK5 nHWB; have x5 : u6.cell? ⟨g5, 0, none⟩ = some (.slice Ao n co) := (blk_cell BK5.out 0).trans rfl; have x6 := blk_frozen BK5.out 0))
                | ((with_reducible refine gate_store (t := 29) (p := 5) rfl ?_); go_must (refine store_event (t := 29) (p := 5) (v := ?vo_u7_5) (w1 := (u6.setCell ⟨g5, 0, none⟩ (.slice Ao (chZ l).length co))) ?hg ?ho ?hn ?hr ?_; (case ho => rfl); (case hg => rfl); (case hn => rfl); (case hr => first | (go_simp; done) | (go_simp; rfl)); intro u7 hw; have nBK5 := Aside0.mk (show u7.heap[g5]? = some (.cells #[.slice Ao (chZ l).length co] 29 (0, 0)) from (by rw [hw]; exact put_one BK5.out)); have nHO := Aside0.mk (show Kd.R (Kd.int .i64) 3 u7 w2.heap.size (fun k => k ≠ g5) (.slice Ao (chZ l).length co) (chZ l) from (by rw [hw]; exact Kd.R_far HO.out (fun k hk => hk) _)); have nHWB := Aside0.mk (show Below w2.heap.size w2 u7 from (by rw [hw]; exact HWB.out.setCell HG5.out.1 _)); clear BK5; clear HO; clear HWB; have BK5 := nBK5; clear nBK5; have HO := nHO; clear nHO; have HWB := nHWB; clear nHWB; clear hw x5 x6)))
              go_ret
              exact ⟨g5, g2, g3, Ao, co, rfl, ⟨by unfold chL chR; rw [← HL.out]; exact BK5.out, blk_below BK2.out HWB.out, blk_below BK3.out HWB.out, HST.out.1.below HWB.out, HST.out.2.below HWB.out, by unfold chL chR; rw [← HL.out]; exact row_C HO.out⟩, ⟨Nat.le_trans HB2.out.size HG5.out.1, (show w.heap.size ≤ g2 from Nat.le_of_eq HG2.out.symm), HG3.out, by unfold chL chR; rw [← HL.out]; obtain ⟨ga, h1_, h2_, h3_⟩ := row_G HO.out rfl (chZ_len (by have := HNN.out; omega)).1; exact ⟨ga, Nat.le_trans HB2.out.size h1_, h2_, h3_⟩⟩, HB2.out.trans (HWB.out.mono HB2.out.size)⟩
end Go.Proofs.Ytebifddfgimnlaa.Rl
end
section
/- slices.ContainsFunc at paces and at grade changes: does one begin too late? -/
namespace Go.Proofs.Ytebifddfgimnlaa.Rl
open Go.RowKit Go.Proofs.Ytebifddfgimnlaa.PX Go.Proofs.Ytebifddfgimnlaa.Rd Go.Proofs.YtebifddfgimnlaaW.PrintWords Go.Proofs.YtebifddfgimnlaaW.PrintLast
set_option linter.unusedVariables false
set_option linter.unusedSimpArgs false
theorem lateP_calls (en : Int) (q : S52) (g : Nat) (w : World) (hg : w.cell? ⟨g, 5, none⟩ = some (.int .i64 en)) :
    Calls Try.prog 21 #[.agg #[.int .i64 q.f0, .int .i64 q.f1], .pointer (some ⟨g, 0, none⟩)] w fun e w' => e = .returned (.bool (decide (en ≤ q.f0))) ∧ Below w.heap.size w w' := by
  have HG := Aside0.mk hg
  have HL := Aside0.mk (World.block_lt_of_cell? w _ hg)
  clear hg
  go_enter Try.func21, Try.ntmps21
  go_wp2_with (first | ((with_reducible refine gate_dst (N := 2) rfl ?_); go_must (refine box_event ?hg (N := 2) ?hd (cs := #[.int .i64 q.f0, .int .i64 q.f1]) (t := 52) ?hr ?_; (case hd => rfl); (case hg => rfl); (case hr => first | (go_simp; done) | (go_simp; rfl)); intro g2 hg w1 hbox hb; have HB := Aside0.mk hb; have x0 : w1.cell? ⟨g, 5, none⟩ = some (.int .i64 en) := (Below.cell hb (p := ⟨g, 5, none⟩) HL.out).trans HG.out; have x1 := (blk_cell hbox 0).trans rfl; clear hbox hb hg)))
  go_ret
  exact ⟨rfl, HB.out⟩
set_option maxHeartbeats 1000000 in
theorem idxP_calls (en : Int) (l : List S52) (A : Option Addr) (cp g : Nat) (w : World) (hr : Kd.C k52 w A l.length l) (hl : l.length ≤ 1000) (hg : w.cell? ⟨g, 5, none⟩ = some (.int .i64 en)) :
    Calls Try.prog 33 #[.slice A l.length cp, .func (.func 21) #[] #[.pointer (some ⟨g, 0, none⟩)]] w fun e w' => ∃ i : Int, e = .returned (.int .i64 i) ∧ decide (0 ≤ i) = l.any (fun q => decide (en ≤ q.f0)) ∧ Below w.heap.size w w' := by
  have HR := Aside0.mk hr
  have HN := Aside0.mk hl
  have HG := Aside0.mk hg
  have HGL := Aside0.mk (World.block_lt_of_cell? w _ hg)
  have HB := Aside0.mk (Below.refl w.heap.size w)
  have hen := fun args w => enters_ Try.func21 (by kernel_rfl) rfl args w
  clear hr hl hg
  go_enter Try.func33, Try.ntmps33
  go_wp2
  go_loopg [5, 8] l.length (fun kq v5 v8 wr => ∃ k : Nat, v8 = .int .i64 (k : Int) ∧ Aside0 (k ≤ l.length ∧ kq = l.length - k) ∧ Aside0 ((l.take k).any (fun q => decide (en ≤ q.f0)) = false) ∧ Aside0 (Below w.heap.size w wr))
  case atStart => exact ⟨0, rfl, ⟨by simp⟩, ⟨by simp⟩, HB⟩
  case round =>
    clear HB
    obtain ⟨k, rfl, HI, HA, HB⟩ := hrel
    by_cases hk : k < l.length
    · have HK := Aside0.mk hk
      obtain ⟨ad, rfl, f0, f1⟩ := at_T52 (Kd.C_below HR.out HB.out) (k : Int) (by omega) (by omega)
      simp only [Int.toNat_natCast] at f0 f1
      have HT := Aside0.mk (take52 l k hk)
      have HM := Aside0.mk (show rd_T52 l (k : Int) ∈ l from List.mem_of_mem_drop (i := k) (by rw [drop52 l k hk]; exact List.mem_cons_self))
      obtain ⟨q, hq⟩ : ∃ q, rd_T52 l (k : Int) = q := ⟨_, rfl⟩
      rw [hq] at f0 f1 HT HM
      have p1 := eq_true (show (k : Int) < (l.length : Int) by omega)
      have p2 := eq_true hk
      have q1 : wrap64 ((k : Int) + 1) = (k : Int) + 1 := by have := HN.out; unfold wrap64; omega
      obtain ⟨b, hb_⟩ : ∃ b, decide (en ≤ q.f0) = b := ⟨_, rfl⟩
      have HBB := Aside0.mk hb_
      clear hq hk hb_
      cases b
      · go_wp2_with (first | (go_at_call 21; go_must (refine (lateP_calls en q g _ ((Below.cell HB.out (p := ⟨g, 5, none⟩) HGL.out).trans HG.out)).mono ?_; rw [HBB.out]; rintro e w2 ⟨rfl, hb⟩; have nHB := Aside0.mk (below_step HB.out hb); clear HB hb f0 f1; have HB := nHB; clear nHB)))
        go_roundg (l.length - (k + 1))
        case measure => have := HI.out; have := HK.out; omega
        case rel => exact ⟨k + 1, by first | rfl | (rw [q1]; rfl), ⟨by have := HK.out; omega⟩, ⟨by rw [HT.out, List.any_append, HA.out, Bool.false_or]; simp only [List.any_cons, List.any_nil, Bool.or_false]; exact HBB.out⟩, HB⟩
      · go_wp2_with (first | (go_at_call 21; go_must (refine (lateP_calls en q g _ ((Below.cell HB.out (p := ⟨g, 5, none⟩) HGL.out).trans HG.out)).mono ?_; rw [HBB.out]; rintro e w2 ⟨rfl, hb⟩; have nHB := Aside0.mk (below_step HB.out hb); clear HB hb f0 f1; have HB := nHB; clear nHB)))
        go_ret
        exact ⟨(k : Int), rfl, (decide_eq_true (show (0 : Int) ≤ (k : Int) by omega)).trans (List.any_eq_true.2 ⟨q, HM.out, HBB.out⟩).symm, HB.out⟩
    · obtain rfl : k = l.length := by have := HI.out; omega
      rw [List.take_length] at HA
      have p1 := eq_false (show ¬ (l.length : Int) < (l.length : Int) by omega)
      clear hk
      go_wp2
      go_ret
      exact ⟨_, rfl, by rw [HA.out]; rfl, HB.out⟩
theorem anyP_calls (en : Int) (l : List S52) (A : Option Addr) (cp g : Nat) (w : World) (hr : Kd.C k52 w A l.length l) (hl : l.length ≤ 1000) (hg : w.cell? ⟨g, 5, none⟩ = some (.int .i64 en)) :
    Calls Try.prog 20 #[.slice A l.length cp, .func (.func 21) #[] #[.pointer (some ⟨g, 0, none⟩)]] w fun e w' => e = .returned (.bool (l.any (fun q => decide (en ≤ q.f0)))) ∧ Below w.heap.size w w' := by
  have HX := Aside0.mk (idxP_calls en l A cp g w hr hl hg)
  clear hr hl hg
  go_enter Try.func20, Try.ntmps20
  go_wp2_with (first | (go_at_call 33; go_must (refine HX.out.mono ?_; rintro e w2 ⟨i, rfl, hi, hb⟩; have HI := Aside0.mk hi; have HB := Aside0.mk hb; clear hi hb HX)))
  go_ret
  exact ⟨congrArg Ending.returned (congrArg Value.bool HI.out), HB.out⟩
theorem lateS_calls (en : Int) (q : S54) (g : Nat) (w : World) (hg : w.cell? ⟨g, 0, none⟩ = some (.int .i64 en)) :
    Calls Try.prog 36 #[.agg #[.int .i64 q.f0, .int .i64 q.f1, .int .i64 q.f2], .pointer (some ⟨g, 0, none⟩)] w fun e w' => e = .returned (.bool (decide (en ≤ q.f0))) ∧ Below w.heap.size w w' := by
  have HG := Aside0.mk hg
  have HL := Aside0.mk (World.block_lt_of_cell? w _ hg)
  clear hg
  go_enter Try.func36, Try.ntmps36
  go_wp2_with (first | ((with_reducible refine gate_dst (N := 2) rfl ?_); go_must (refine box_event ?hg (N := 2) ?hd (cs := #[.int .i64 q.f0, .int .i64 q.f1, .int .i64 q.f2]) (t := 54) ?hr ?_; (case hd => rfl); (case hg => rfl); (case hr => first | (go_simp; done) | (go_simp; rfl)); intro g2 hg w1 hbox hb; have HB := Aside0.mk hb; have x0 : w1.cell? ⟨g, 0, none⟩ = some (.int .i64 en) := (Below.cell hb (p := ⟨g, 0, none⟩) HL.out).trans HG.out; have x1 := (blk_cell hbox 0).trans rfl; clear hbox hb hg)))
  go_ret
  exact ⟨rfl, HB.out⟩
set_option maxHeartbeats 1000000 in
theorem idxS_calls (en : Int) (l : List S54) (A : Option Addr) (cp g : Nat) (w : World) (hr : Kd.C k54 w A l.length l) (hl : l.length ≤ 1000) (hg : w.cell? ⟨g, 0, none⟩ = some (.int .i64 en)) :
    Calls Try.prog 42 #[.slice A l.length cp, .func (.func 36) #[] #[.pointer (some ⟨g, 0, none⟩)]] w fun e w' => ∃ i : Int, e = .returned (.int .i64 i) ∧ decide (0 ≤ i) = l.any (fun q => decide (en ≤ q.f0)) ∧ Below w.heap.size w w' := by
  have HR := Aside0.mk hr
  have HN := Aside0.mk hl
  have HG := Aside0.mk hg
  have HGL := Aside0.mk (World.block_lt_of_cell? w _ hg)
  have HB := Aside0.mk (Below.refl w.heap.size w)
  have hen := fun args w => enters_ Try.func36 (by kernel_rfl) rfl args w
  clear hr hl hg
  go_enter Try.func42, Try.ntmps42
  go_wp2
  go_loopg [5, 8] l.length (fun kq v5 v8 wr => ∃ k : Nat, v8 = .int .i64 (k : Int) ∧ Aside0 (k ≤ l.length ∧ kq = l.length - k) ∧ Aside0 ((l.take k).any (fun q => decide (en ≤ q.f0)) = false) ∧ Aside0 (Below w.heap.size w wr))
  case atStart => exact ⟨0, rfl, ⟨by simp⟩, ⟨by simp⟩, HB⟩
  case round =>
    clear HB
    obtain ⟨k, rfl, HI, HA, HB⟩ := hrel
    by_cases hk : k < l.length
    · have HK := Aside0.mk hk
      obtain ⟨ad, rfl, f0, f1, f2⟩ := at_T54 (Kd.C_below HR.out HB.out) (k : Int) (by omega) (by omega)
      simp only [Int.toNat_natCast] at f0 f1 f2
      have HT := Aside0.mk (take54 l k hk)
      have HM := Aside0.mk (show rd_T54 l (k : Int) ∈ l from List.mem_of_mem_drop (i := k) (by rw [drop54 l k hk]; exact List.mem_cons_self))
      obtain ⟨q, hq⟩ : ∃ q, rd_T54 l (k : Int) = q := ⟨_, rfl⟩
      rw [hq] at f0 f1 f2 HT HM
      have p1 := eq_true (show (k : Int) < (l.length : Int) by omega)
      have p2 := eq_true hk
      have q1 : wrap64 ((k : Int) + 1) = (k : Int) + 1 := by have := HN.out; unfold wrap64; omega
      obtain ⟨b, hb_⟩ : ∃ b, decide (en ≤ q.f0) = b := ⟨_, rfl⟩
      have HBB := Aside0.mk hb_
      clear hq hk hb_
      cases b
      · go_wp2_with (first | (go_at_call 36; go_must (refine (lateS_calls en q g _ ((Below.cell HB.out (p := ⟨g, 0, none⟩) HGL.out).trans HG.out)).mono ?_; rw [HBB.out]; rintro e w2 ⟨rfl, hb⟩; have nHB := Aside0.mk (below_step HB.out hb); clear HB hb f0 f1 f2; have HB := nHB; clear nHB)))
        go_roundg (l.length - (k + 1))
        case measure => have := HI.out; have := HK.out; omega
        case rel => exact ⟨k + 1, by first | rfl | (rw [q1]; rfl), ⟨by have := HK.out; omega⟩, ⟨by rw [HT.out, List.any_append, HA.out, Bool.false_or]; simp only [List.any_cons, List.any_nil, Bool.or_false]; exact HBB.out⟩, HB⟩
      · go_wp2_with (first | (go_at_call 36; go_must (refine (lateS_calls en q g _ ((Below.cell HB.out (p := ⟨g, 0, none⟩) HGL.out).trans HG.out)).mono ?_; rw [HBB.out]; rintro e w2 ⟨rfl, hb⟩; have nHB := Aside0.mk (below_step HB.out hb); clear HB hb f0 f1 f2; have HB := nHB; clear nHB)))
        go_ret
        exact ⟨(k : Int), rfl, (decide_eq_true (show (0 : Int) ≤ (k : Int) by omega)).trans (List.any_eq_true.2 ⟨q, HM.out, HBB.out⟩).symm, HB.out⟩
    · obtain rfl : k = l.length := by have := HI.out; omega
      rw [List.take_length] at HA
      have p1 := eq_false (show ¬ (l.length : Int) < (l.length : Int) by omega)
      clear hk
      go_wp2
      go_ret
      exact ⟨_, rfl, by rw [HA.out]; rfl, HB.out⟩
theorem anyS_calls (en : Int) (l : List S54) (A : Option Addr) (cp g : Nat) (w : World) (hr : Kd.C k54 w A l.length l) (hl : l.length ≤ 1000) (hg : w.cell? ⟨g, 0, none⟩ = some (.int .i64 en)) :
    Calls Try.prog 35 #[.slice A l.length cp, .func (.func 36) #[] #[.pointer (some ⟨g, 0, none⟩)]] w fun e w' => e = .returned (.bool (l.any (fun q => decide (en ≤ q.f0)))) ∧ Below w.heap.size w w' := by
  have HX := Aside0.mk (idxS_calls en l A cp g w hr hl hg)
  clear hr hl hg
  go_enter Try.func35, Try.ntmps35
  go_wp2_with (first | (go_at_call 42; go_must (refine HX.out.mono ?_; rintro e w2 ⟨i, rfl, hi, hb⟩; have HI := Aside0.mk hi; have HB := Aside0.mk hb; clear hi hb HX)))
  go_ret
  exact ⟨congrArg Ending.returned (congrArg Value.bool HI.out), HB.out⟩
end Go.Proofs.Ytebifddfgimnlaa.Rl
end
section
/- checkSwitches. -/
namespace Go.Proofs.Ytebifddfgimnlaa.Rl
open Go.RowKit Go.Proofs.Ytebifddfgimnlaa.PX Go.Proofs.Ytebifddfgimnlaa.Rd Go.Proofs.YtebifddfgimnlaaW.PrintWords Go.Proofs.YtebifddfgimnlaaW.PrintLast
set_option linter.unusedVariables false
set_option linter.unusedSimpArgs false
theorem cmom (t : Int) : course_moment.f t = some (mom t) := by unfold course_moment.f mom; split <;> rfl
/-- The first error of grade changes, each by itself. -/
def ck1 : List S54 → Int
  | [] => 0
  | s :: l => if mom s.f0 = false then 1 else if s.f1 < 0 then 22 else if 16 ≤ s.f1 then 22 else if mom s.f2 = false then 1 else ck1 l
def ascB (l : List S54) : Bool := decide (∀ i, i < l.length - 1 → (rd_T54 l ((i : Nat) : Int)).f0 < (rd_T54 l ((i + 1 : Nat) : Int)).f0)
def ckS (l : List S54) (en : Int) : Int := if ck1 l = 0 then (if ascB l = true then (if l.any (fun q => decide (en ≤ q.f0)) = true then 37 else 0) else 9) else ck1 l
theorem ckS_bad {l : List S54} {en r : Int} (h : ck1 l = r) (h0 : r ≠ 0) : ckS l en = r := by unfold ckS; rw [h, if_neg h0]
set_option maxHeartbeats 4000000 in
set_option maxRecDepth 100000 in
theorem ckS_calls (l : List S54) (A : Option Addr) (cp : Nat) (en : Int) (w : World) (hr : Kd.C k54 w A l.length l) (hl : l.length ≤ 100) :
    Calls Try.prog 22 #[.slice A l.length cp, .int .i64 en] w fun e w' => e = .returned (.int .i64 (ckS l en)) ∧ Below w.heap.size w w' := by
  have HR := Aside0.mk hr
  have HN := Aside0.mk hl
  have d1 : decide ((512 : Int) < (l.length : Int)) = false := decide_eq_false (by omega)
  have d2 := eq_false (show ¬ (512 : Int) < (l.length : Int) by omega)
  have d3 := eq_false (show ¬ 512 < l.length by omega)
  clear hr hl
  go_enter Try.func22, Try.ntmps22
  go_wp2_with (first | ((with_reducible refine gate_dst (N := 3) rfl ?_); go_must (refine box_event ?hg (N := 3) ?hd (cs := #[.int .i64 en]) (t := 3) ?hr ?_; (case hd => rfl); (case hg => rfl); (case hr => first | (go_simp; done) | (go_simp; rfl)); intro g3 hg w0 hbox hb; have BK3 := Aside0.mk hbox; have HB := Aside0.mk hb; have HGG := Aside0.mk (Nat.le_of_eq hg.symm); clear hbox hb hg)))
  go_loopg [6, 14] l.length (fun kq v6 v14 wr => ∃ k : Nat, v14 = .int .i64 (k : Int) ∧ Aside0 (k ≤ l.length ∧ kq = l.length - k) ∧ Aside0 (ck1 (l.drop k) = ck1 l) ∧ Aside0 (Below w.heap.size w wr) ∧ Aside0 (wr.heap[g3]? = some (.cells #[.int .i64 en] 3 (0, 0))))
  case atStart => exact ⟨0, rfl, ⟨by simp⟩, ⟨rfl⟩, HB, BK3⟩
  case round =>
    clear HB BK3
    obtain ⟨k, rfl, HI, HA, HB, BK3⟩ := hrel
    have M1 := trivial
    have M2 := trivial
    by_cases hk : k < l.length
    · have HK := Aside0.mk hk
      obtain ⟨ad, rfl, f0, f1, f2⟩ := at_T54 (Kd.C_below HR.out HB.out) (k : Int) (by omega) (by omega)
      simp only [Int.toNat_natCast] at f0 f1 f2
      have hdr := drop54 l k hk
      obtain ⟨q, hq⟩ : ∃ q, rd_T54 l (k : Int) = q := ⟨_, rfl⟩
      rw [hq] at f0 f1 f2 hdr
      have HD := Aside0.mk hdr
      have HV0 := Aside0.mk (show (if mom q.f0 = false then 1 else if q.f1 < 0 then 22 else if 16 ≤ q.f1 then 22 else if mom q.f2 = false then 1 else ck1 (l.drop (k + 1))) = ck1 l from by rw [← HA.out, hdr]; rfl)
      have p1 := eq_true (show (k : Int) < (l.length : Int) by omega)
      have p2 := eq_true hk
      have q1 : wrap64 ((k : Int) + 1) = (k : Int) + 1 := by have := HN.out; unfold wrap64; omega
      clear hq hk hdr
      cases hm0 : mom q.f0 with
      | false =>
        have HM0 := Aside0.mk hm0
        have HV := Aside0.mk (show ck1 l = 1 from by rw [← HV0.out, if_pos hm0])
        clear hm0
        go_wp2_with (first
          | ((with_reducible refine gate_dst (N := 6) rfl ?_); go_must (refine box_event ?hg (N := 6) ?hd (cs := #[.int .i64 0, .int .i64 0, .int .i64 0]) (t := 54) ?hr ?_; (case hd => rfl); (case hg => rfl); (case hr => first | (go_simp; done) | (go_simp; rfl)); intro g6 hg w1 hbox hb; have BK6 := Aside0.mk hbox; have nBK3 := Aside0.mk (blk_below BK3.out hb); have HG6 := Aside0.mk (show w.heap.size ≤ g6 from by rw [hg]; exact HB.out.size); have HG63 := Aside0.mk (show g3 ≠ g6 from by rw [hg]; exact fun e => absurd (blk_lt BK3.out) (by omega)); have nHB := Aside0.mk (below_step HB.out hb); have y0 : w1.cell? ⟨g6, 0, none⟩ = some (.int .i64 0) := (blk_cell hbox 0).trans rfl; have z0 := blk_frozen hbox 0; have y1 : w1.cell? ⟨g6, 1, none⟩ = some (.int .i64 0) := (blk_cell hbox 1).trans rfl; have z1 := blk_frozen hbox 1; have y2 : w1.cell? ⟨g6, 2, none⟩ = some (.int .i64 0) := (blk_cell hbox 2).trans rfl; have z2 := blk_frozen hbox 2; clear HB; clear BK3; have HB := nHB; clear nHB; have BK3 := nBK3; clear nBK3; clear hbox hb hg f0 f1 f2))
          | ((with_reducible refine gate_store (t := 54) (p := 6) rfl ?_); go_must (refine store_event (t := 54) (p := 6) (v := ?vo_w2_6) (w1 := (((w1.setCell ⟨g6, 0, none⟩ (.int .i64 q.f0)).setCell ⟨g6, 1, none⟩ (.int .i64 q.f1)).setCell ⟨g6, 2, none⟩ (.int .i64 q.f2))) ?hg ?ho ?hn ?hr ?_; (case ho => rfl); (case hg => rfl); (case hn => rfl); (case hr => first | (go_simp; done) | (go_simp; rfl)); intro w2 hw; have nBK6 := Aside0.mk (show w2.heap[g6]? = some (.cells #[.int .i64 q.f0, .int .i64 q.f1, .int .i64 q.f2] 54 (0, 0)) from (by rw [hw]; exact put_three BK6.out)); have nBK3 := Aside0.mk (show w2.heap[g3]? = some (.cells #[.int .i64 en] 3 (0, 0)) from (by rw [hw]; exact blk_far (blk_far (blk_far BK3.out (p := ⟨g6, 0, none⟩) HG63.out _) (p := ⟨g6, 1, none⟩) HG63.out _) (p := ⟨g6, 2, none⟩) HG63.out _)); have nHB := Aside0.mk (show Below w.heap.size w w2 from (by rw [hw]; exact ((HB.out.setCell HG6.out _).setCell HG6.out _).setCell HG6.out _)); clear BK6; clear HB; clear BK3; have BK6 := nBK6; clear nBK6; have HB := nHB; clear nHB; have BK3 := nBK3; clear nBK3; have e0 : w2.cell? ⟨g6, 0, none⟩ = some (.int .i64 q.f0) := (blk_cell BK6.out 0).trans rfl; have e1 : w2.cell? ⟨g6, 1, none⟩ = some (.int .i64 q.f1) := (blk_cell BK6.out 1).trans rfl; have e2 : w2.cell? ⟨g6, 2, none⟩ = some (.int .i64 q.f2) := (blk_cell BK6.out 2).trans rfl; clear hw y0 y1 y2 z0 z1 z2))
          | (go_at_call 34; clear M1; go_must (refine (course_moment.calls q.f0 (mom q.f0) _ (cmom _)).mono ?_; rw [HM0.out]; rintro e w3 ⟨rfl, hb⟩; have nHB := Aside0.mk (below_step HB.out hb.below); have nBK := Aside0.mk (blk_below BK6.out hb.below); have nBK3 := Aside0.mk (blk_below BK3.out hb.below); clear HB BK6 BK3 hb e0 e1 e2; have HB := nHB; have BK6 := nBK; have BK3 := nBK3; clear nHB nBK nBK3; have e0 : w3.cell? ⟨g6, 0, none⟩ = some (.int .i64 q.f0) := (blk_cell BK6.out 0).trans rfl; have e1 : w3.cell? ⟨g6, 1, none⟩ = some (.int .i64 q.f1) := (blk_cell BK6.out 1).trans rfl; have e2 : w3.cell? ⟨g6, 2, none⟩ = some (.int .i64 q.f2) := (blk_cell BK6.out 2).trans rfl)))
        go_ret
        exact ⟨congrArg Ending.returned (congrArg (Value.int .i64) (ckS_bad HV.out (by decide)).symm), HB.out⟩
      | true =>
        have HM0 := Aside0.mk hm0
        have HV1 := Aside0.mk (show (if q.f1 < 0 then 22 else if 16 ≤ q.f1 then 22 else if mom q.f2 = false then 1 else ck1 (l.drop (k + 1))) = ck1 l from (if_neg (by rw [hm0]; decide)).symm.trans HV0.out)
        clear hm0 HV0
        by_cases hg0 : q.f1 < 0
        · have HV := Aside0.mk (show ck1 l = 22 from by rw [← HV1.out, if_pos hg0])
          have k1 : decide (q.f1 < 0) = true := decide_eq_true hg0
          have k2 := eq_true hg0
          clear hg0
          go_wp2_with (first
            | ((with_reducible refine gate_dst (N := 6) rfl ?_); go_must (refine box_event ?hg (N := 6) ?hd (cs := #[.int .i64 0, .int .i64 0, .int .i64 0]) (t := 54) ?hr ?_; (case hd => rfl); (case hg => rfl); (case hr => first | (go_simp; done) | (go_simp; rfl)); intro g6 hg w1 hbox hb; have BK6 := Aside0.mk hbox; have nBK3 := Aside0.mk (blk_below BK3.out hb); have HG6 := Aside0.mk (show w.heap.size ≤ g6 from by rw [hg]; exact HB.out.size); have HG63 := Aside0.mk (show g3 ≠ g6 from by rw [hg]; exact fun e => absurd (blk_lt BK3.out) (by omega)); have nHB := Aside0.mk (below_step HB.out hb); have y0 : w1.cell? ⟨g6, 0, none⟩ = some (.int .i64 0) := (blk_cell hbox 0).trans rfl; have z0 := blk_frozen hbox 0; have y1 : w1.cell? ⟨g6, 1, none⟩ = some (.int .i64 0) := (blk_cell hbox 1).trans rfl; have z1 := blk_frozen hbox 1; have y2 : w1.cell? ⟨g6, 2, none⟩ = some (.int .i64 0) := (blk_cell hbox 2).trans rfl; have z2 := blk_frozen hbox 2; clear HB; clear BK3; have HB := nHB; clear nHB; have BK3 := nBK3; clear nBK3; clear hbox hb hg f0 f1 f2))
            | ((with_reducible refine gate_store (t := 54) (p := 6) rfl ?_); go_must (refine store_event (t := 54) (p := 6) (v := ?vo_w2_6) (w1 := (((w1.setCell ⟨g6, 0, none⟩ (.int .i64 q.f0)).setCell ⟨g6, 1, none⟩ (.int .i64 q.f1)).setCell ⟨g6, 2, none⟩ (.int .i64 q.f2))) ?hg ?ho ?hn ?hr ?_; (case ho => rfl); (case hg => rfl); (case hn => rfl); (case hr => first | (go_simp; done) | (go_simp; rfl)); intro w2 hw; have nBK6 := Aside0.mk (show w2.heap[g6]? = some (.cells #[.int .i64 q.f0, .int .i64 q.f1, .int .i64 q.f2] 54 (0, 0)) from (by rw [hw]; exact put_three BK6.out)); have nBK3 := Aside0.mk (show w2.heap[g3]? = some (.cells #[.int .i64 en] 3 (0, 0)) from (by rw [hw]; exact blk_far (blk_far (blk_far BK3.out (p := ⟨g6, 0, none⟩) HG63.out _) (p := ⟨g6, 1, none⟩) HG63.out _) (p := ⟨g6, 2, none⟩) HG63.out _)); have nHB := Aside0.mk (show Below w.heap.size w w2 from (by rw [hw]; exact ((HB.out.setCell HG6.out _).setCell HG6.out _).setCell HG6.out _)); clear BK6; clear HB; clear BK3; have BK6 := nBK6; clear nBK6; have HB := nHB; clear nHB; have BK3 := nBK3; clear nBK3; have e0 : w2.cell? ⟨g6, 0, none⟩ = some (.int .i64 q.f0) := (blk_cell BK6.out 0).trans rfl; have e1 : w2.cell? ⟨g6, 1, none⟩ = some (.int .i64 q.f1) := (blk_cell BK6.out 1).trans rfl; have e2 : w2.cell? ⟨g6, 2, none⟩ = some (.int .i64 q.f2) := (blk_cell BK6.out 2).trans rfl; clear hw y0 y1 y2 z0 z1 z2))
            | (go_at_call 34; clear M1; go_must (refine (course_moment.calls q.f0 (mom q.f0) _ (cmom _)).mono ?_; rw [HM0.out]; rintro e w3 ⟨rfl, hb⟩; have nHB := Aside0.mk (below_step HB.out hb.below); have nBK := Aside0.mk (blk_below BK6.out hb.below); have nBK3 := Aside0.mk (blk_below BK3.out hb.below); clear HB BK6 BK3 hb e0 e1 e2; have HB := nHB; have BK6 := nBK; have BK3 := nBK3; clear nHB nBK nBK3; have e0 : w3.cell? ⟨g6, 0, none⟩ = some (.int .i64 q.f0) := (blk_cell BK6.out 0).trans rfl; have e1 : w3.cell? ⟨g6, 1, none⟩ = some (.int .i64 q.f1) := (blk_cell BK6.out 1).trans rfl; have e2 : w3.cell? ⟨g6, 2, none⟩ = some (.int .i64 q.f2) := (blk_cell BK6.out 2).trans rfl)))
          go_ret
          exact ⟨congrArg Ending.returned (congrArg (Value.int .i64) (ckS_bad HV.out (by decide)).symm), HB.out⟩
        · have HV2 := Aside0.mk (show (if 16 ≤ q.f1 then 22 else if mom q.f2 = false then 1 else ck1 (l.drop (k + 1))) = ck1 l from (if_neg hg0).symm.trans HV1.out)
          have k1 : decide (q.f1 < 0) = false := decide_eq_false hg0
          have k2 := eq_false hg0
          clear hg0 HV1
          by_cases hg1 : 16 ≤ q.f1
          · have HV := Aside0.mk (show ck1 l = 22 from by rw [← HV2.out, if_pos hg1])
            have k3 : decide (16 ≤ q.f1) = true := decide_eq_true hg1
            have k4 := eq_true hg1
            clear hg1
            go_wp2_with (first
              | ((with_reducible refine gate_dst (N := 6) rfl ?_); go_must (refine box_event ?hg (N := 6) ?hd (cs := #[.int .i64 0, .int .i64 0, .int .i64 0]) (t := 54) ?hr ?_; (case hd => rfl); (case hg => rfl); (case hr => first | (go_simp; done) | (go_simp; rfl)); intro g6 hg w1 hbox hb; have BK6 := Aside0.mk hbox; have nBK3 := Aside0.mk (blk_below BK3.out hb); have HG6 := Aside0.mk (show w.heap.size ≤ g6 from by rw [hg]; exact HB.out.size); have HG63 := Aside0.mk (show g3 ≠ g6 from by rw [hg]; exact fun e => absurd (blk_lt BK3.out) (by omega)); have nHB := Aside0.mk (below_step HB.out hb); have y0 : w1.cell? ⟨g6, 0, none⟩ = some (.int .i64 0) := (blk_cell hbox 0).trans rfl; have z0 := blk_frozen hbox 0; have y1 : w1.cell? ⟨g6, 1, none⟩ = some (.int .i64 0) := (blk_cell hbox 1).trans rfl; have z1 := blk_frozen hbox 1; have y2 : w1.cell? ⟨g6, 2, none⟩ = some (.int .i64 0) := (blk_cell hbox 2).trans rfl; have z2 := blk_frozen hbox 2; clear HB; clear BK3; have HB := nHB; clear nHB; have BK3 := nBK3; clear nBK3; clear hbox hb hg f0 f1 f2))
              | ((with_reducible refine gate_store (t := 54) (p := 6) rfl ?_); go_must (refine store_event (t := 54) (p := 6) (v := ?vo_w2_6) (w1 := (((w1.setCell ⟨g6, 0, none⟩ (.int .i64 q.f0)).setCell ⟨g6, 1, none⟩ (.int .i64 q.f1)).setCell ⟨g6, 2, none⟩ (.int .i64 q.f2))) ?hg ?ho ?hn ?hr ?_; (case ho => rfl); (case hg => rfl); (case hn => rfl); (case hr => first | (go_simp; done) | (go_simp; rfl)); intro w2 hw; have nBK6 := Aside0.mk (show w2.heap[g6]? = some (.cells #[.int .i64 q.f0, .int .i64 q.f1, .int .i64 q.f2] 54 (0, 0)) from (by rw [hw]; exact put_three BK6.out)); have nBK3 := Aside0.mk (show w2.heap[g3]? = some (.cells #[.int .i64 en] 3 (0, 0)) from (by rw [hw]; exact blk_far (blk_far (blk_far BK3.out (p := ⟨g6, 0, none⟩) HG63.out _) (p := ⟨g6, 1, none⟩) HG63.out _) (p := ⟨g6, 2, none⟩) HG63.out _)); have nHB := Aside0.mk (show Below w.heap.size w w2 from (by rw [hw]; exact ((HB.out.setCell HG6.out _).setCell HG6.out _).setCell HG6.out _)); clear BK6; clear HB; clear BK3; have BK6 := nBK6; clear nBK6; have HB := nHB; clear nHB; have BK3 := nBK3; clear nBK3; have e0 : w2.cell? ⟨g6, 0, none⟩ = some (.int .i64 q.f0) := (blk_cell BK6.out 0).trans rfl; have e1 : w2.cell? ⟨g6, 1, none⟩ = some (.int .i64 q.f1) := (blk_cell BK6.out 1).trans rfl; have e2 : w2.cell? ⟨g6, 2, none⟩ = some (.int .i64 q.f2) := (blk_cell BK6.out 2).trans rfl; clear hw y0 y1 y2 z0 z1 z2))
              | (go_at_call 34; clear M1; go_must (refine (course_moment.calls q.f0 (mom q.f0) _ (cmom _)).mono ?_; rw [HM0.out]; rintro e w3 ⟨rfl, hb⟩; have nHB := Aside0.mk (below_step HB.out hb.below); have nBK := Aside0.mk (blk_below BK6.out hb.below); have nBK3 := Aside0.mk (blk_below BK3.out hb.below); clear HB BK6 BK3 hb e0 e1 e2; have HB := nHB; have BK6 := nBK; have BK3 := nBK3; clear nHB nBK nBK3; have e0 : w3.cell? ⟨g6, 0, none⟩ = some (.int .i64 q.f0) := (blk_cell BK6.out 0).trans rfl; have e1 : w3.cell? ⟨g6, 1, none⟩ = some (.int .i64 q.f1) := (blk_cell BK6.out 1).trans rfl; have e2 : w3.cell? ⟨g6, 2, none⟩ = some (.int .i64 q.f2) := (blk_cell BK6.out 2).trans rfl)))
            go_ret
            exact ⟨congrArg Ending.returned (congrArg (Value.int .i64) (ckS_bad HV.out (by decide)).symm), HB.out⟩
          · have HV3 := Aside0.mk (show (if mom q.f2 = false then 1 else ck1 (l.drop (k + 1))) = ck1 l from (if_neg hg1).symm.trans HV2.out)
            have k3 : decide (16 ≤ q.f1) = false := decide_eq_false hg1
            have k4 := eq_false hg1
            clear hg1 HV2
            cases hm2 : mom q.f2 with
            | false =>
              have HM2 := Aside0.mk hm2
              have HV := Aside0.mk (show ck1 l = 1 from by rw [← HV3.out, if_pos hm2])
              clear hm2
              go_wp2_with (first
                | ((with_reducible refine gate_dst (N := 6) rfl ?_); go_must (refine box_event ?hg (N := 6) ?hd (cs := #[.int .i64 0, .int .i64 0, .int .i64 0]) (t := 54) ?hr ?_; (case hd => rfl); (case hg => rfl); (case hr => first | (go_simp; done) | (go_simp; rfl)); intro g6 hg w1 hbox hb; have BK6 := Aside0.mk hbox; have nBK3 := Aside0.mk (blk_below BK3.out hb); have HG6 := Aside0.mk (show w.heap.size ≤ g6 from by rw [hg]; exact HB.out.size); have HG63 := Aside0.mk (show g3 ≠ g6 from by rw [hg]; exact fun e => absurd (blk_lt BK3.out) (by omega)); have nHB := Aside0.mk (below_step HB.out hb); have y0 : w1.cell? ⟨g6, 0, none⟩ = some (.int .i64 0) := (blk_cell hbox 0).trans rfl; have z0 := blk_frozen hbox 0; have y1 : w1.cell? ⟨g6, 1, none⟩ = some (.int .i64 0) := (blk_cell hbox 1).trans rfl; have z1 := blk_frozen hbox 1; have y2 : w1.cell? ⟨g6, 2, none⟩ = some (.int .i64 0) := (blk_cell hbox 2).trans rfl; have z2 := blk_frozen hbox 2; clear HB; clear BK3; have HB := nHB; clear nHB; have BK3 := nBK3; clear nBK3; clear hbox hb hg f0 f1 f2))
                | ((with_reducible refine gate_store (t := 54) (p := 6) rfl ?_); go_must (refine store_event (t := 54) (p := 6) (v := ?vo_w2_6) (w1 := (((w1.setCell ⟨g6, 0, none⟩ (.int .i64 q.f0)).setCell ⟨g6, 1, none⟩ (.int .i64 q.f1)).setCell ⟨g6, 2, none⟩ (.int .i64 q.f2))) ?hg ?ho ?hn ?hr ?_; (case ho => rfl); (case hg => rfl); (case hn => rfl); (case hr => first | (go_simp; done) | (go_simp; rfl)); intro w2 hw; have nBK6 := Aside0.mk (show w2.heap[g6]? = some (.cells #[.int .i64 q.f0, .int .i64 q.f1, .int .i64 q.f2] 54 (0, 0)) from (by rw [hw]; exact put_three BK6.out)); have nBK3 := Aside0.mk (show w2.heap[g3]? = some (.cells #[.int .i64 en] 3 (0, 0)) from (by rw [hw]; exact blk_far (blk_far (blk_far BK3.out (p := ⟨g6, 0, none⟩) HG63.out _) (p := ⟨g6, 1, none⟩) HG63.out _) (p := ⟨g6, 2, none⟩) HG63.out _)); have nHB := Aside0.mk (show Below w.heap.size w w2 from (by rw [hw]; exact ((HB.out.setCell HG6.out _).setCell HG6.out _).setCell HG6.out _)); clear BK6; clear HB; clear BK3; have BK6 := nBK6; clear nBK6; have HB := nHB; clear nHB; have BK3 := nBK3; clear nBK3; have e0 : w2.cell? ⟨g6, 0, none⟩ = some (.int .i64 q.f0) := (blk_cell BK6.out 0).trans rfl; have e1 : w2.cell? ⟨g6, 1, none⟩ = some (.int .i64 q.f1) := (blk_cell BK6.out 1).trans rfl; have e2 : w2.cell? ⟨g6, 2, none⟩ = some (.int .i64 q.f2) := (blk_cell BK6.out 2).trans rfl; clear hw y0 y1 y2 z0 z1 z2))
                | (go_at_call 34; clear M1; go_must (refine (course_moment.calls q.f0 (mom q.f0) _ (cmom _)).mono ?_; rw [HM0.out]; rintro e w3 ⟨rfl, hb⟩; have nHB := Aside0.mk (below_step HB.out hb.below); have nBK := Aside0.mk (blk_below BK6.out hb.below); have nBK3 := Aside0.mk (blk_below BK3.out hb.below); clear HB BK6 BK3 hb e0 e1 e2; have HB := nHB; have BK6 := nBK; have BK3 := nBK3; clear nHB nBK nBK3; have e0 : w3.cell? ⟨g6, 0, none⟩ = some (.int .i64 q.f0) := (blk_cell BK6.out 0).trans rfl; have e1 : w3.cell? ⟨g6, 1, none⟩ = some (.int .i64 q.f1) := (blk_cell BK6.out 1).trans rfl; have e2 : w3.cell? ⟨g6, 2, none⟩ = some (.int .i64 q.f2) := (blk_cell BK6.out 2).trans rfl))
                | (go_at_call 34; clear M2; go_must (refine (course_moment.calls q.f2 (mom q.f2) _ (cmom _)).mono ?_; rw [HM2.out]; rintro e w4 ⟨rfl, hb⟩; have nHB := Aside0.mk (below_step HB.out hb.below); have nBK := Aside0.mk (blk_below BK6.out hb.below); have nBK3 := Aside0.mk (blk_below BK3.out hb.below); clear HB BK6 BK3 hb e0 e1 e2; have HB := nHB; have BK6 := nBK; have BK3 := nBK3; clear nHB nBK nBK3; have e0 : w4.cell? ⟨g6, 0, none⟩ = some (.int .i64 q.f0) := (blk_cell BK6.out 0).trans rfl; have e1 : w4.cell? ⟨g6, 1, none⟩ = some (.int .i64 q.f1) := (blk_cell BK6.out 1).trans rfl; have e2 : w4.cell? ⟨g6, 2, none⟩ = some (.int .i64 q.f2) := (blk_cell BK6.out 2).trans rfl)))
              go_ret
              exact ⟨congrArg Ending.returned (congrArg (Value.int .i64) (ckS_bad HV.out (by decide)).symm), HB.out⟩
            | true =>
              have HM2 := Aside0.mk hm2
              have HV := Aside0.mk (show ck1 (l.drop (k + 1)) = ck1 l from (if_neg (by rw [hm2]; decide)).symm.trans HV3.out)
              clear hm2
              go_wp2_with (first
                | ((with_reducible refine gate_dst (N := 6) rfl ?_); go_must (refine box_event ?hg (N := 6) ?hd (cs := #[.int .i64 0, .int .i64 0, .int .i64 0]) (t := 54) ?hr ?_; (case hd => rfl); (case hg => rfl); (case hr => first | (go_simp; done) | (go_simp; rfl)); intro g6 hg w1 hbox hb; have BK6 := Aside0.mk hbox; have nBK3 := Aside0.mk (blk_below BK3.out hb); have HG6 := Aside0.mk (show w.heap.size ≤ g6 from by rw [hg]; exact HB.out.size); have HG63 := Aside0.mk (show g3 ≠ g6 from by rw [hg]; exact fun e => absurd (blk_lt BK3.out) (by omega)); have nHB := Aside0.mk (below_step HB.out hb); have y0 : w1.cell? ⟨g6, 0, none⟩ = some (.int .i64 0) := (blk_cell hbox 0).trans rfl; have z0 := blk_frozen hbox 0; have y1 : w1.cell? ⟨g6, 1, none⟩ = some (.int .i64 0) := (blk_cell hbox 1).trans rfl; have z1 := blk_frozen hbox 1; have y2 : w1.cell? ⟨g6, 2, none⟩ = some (.int .i64 0) := (blk_cell hbox 2).trans rfl; have z2 := blk_frozen hbox 2; clear HB; clear BK3; have HB := nHB; clear nHB; have BK3 := nBK3; clear nBK3; clear hbox hb hg f0 f1 f2))
                | ((with_reducible refine gate_store (t := 54) (p := 6) rfl ?_); go_must (refine store_event (t := 54) (p := 6) (v := ?vo_w2_6) (w1 := (((w1.setCell ⟨g6, 0, none⟩ (.int .i64 q.f0)).setCell ⟨g6, 1, none⟩ (.int .i64 q.f1)).setCell ⟨g6, 2, none⟩ (.int .i64 q.f2))) ?hg ?ho ?hn ?hr ?_; (case ho => rfl); (case hg => rfl); (case hn => rfl); (case hr => first | (go_simp; done) | (go_simp; rfl)); intro w2 hw; have nBK6 := Aside0.mk (show w2.heap[g6]? = some (.cells #[.int .i64 q.f0, .int .i64 q.f1, .int .i64 q.f2] 54 (0, 0)) from (by rw [hw]; exact put_three BK6.out)); have nBK3 := Aside0.mk (show w2.heap[g3]? = some (.cells #[.int .i64 en] 3 (0, 0)) from (by rw [hw]; exact blk_far (blk_far (blk_far BK3.out (p := ⟨g6, 0, none⟩) HG63.out _) (p := ⟨g6, 1, none⟩) HG63.out _) (p := ⟨g6, 2, none⟩) HG63.out _)); have nHB := Aside0.mk (show Below w.heap.size w w2 from (by rw [hw]; exact ((HB.out.setCell HG6.out _).setCell HG6.out _).setCell HG6.out _)); clear BK6; clear HB; clear BK3; have BK6 := nBK6; clear nBK6; have HB := nHB; clear nHB; have BK3 := nBK3; clear nBK3; have e0 : w2.cell? ⟨g6, 0, none⟩ = some (.int .i64 q.f0) := (blk_cell BK6.out 0).trans rfl; have e1 : w2.cell? ⟨g6, 1, none⟩ = some (.int .i64 q.f1) := (blk_cell BK6.out 1).trans rfl; have e2 : w2.cell? ⟨g6, 2, none⟩ = some (.int .i64 q.f2) := (blk_cell BK6.out 2).trans rfl; clear hw y0 y1 y2 z0 z1 z2))
                | (go_at_call 34; clear M1; go_must (refine (course_moment.calls q.f0 (mom q.f0) _ (cmom _)).mono ?_; rw [HM0.out]; rintro e w3 ⟨rfl, hb⟩; have nHB := Aside0.mk (below_step HB.out hb.below); have nBK := Aside0.mk (blk_below BK6.out hb.below); have nBK3 := Aside0.mk (blk_below BK3.out hb.below); clear HB BK6 BK3 hb e0 e1 e2; have HB := nHB; have BK6 := nBK; have BK3 := nBK3; clear nHB nBK nBK3; have e0 : w3.cell? ⟨g6, 0, none⟩ = some (.int .i64 q.f0) := (blk_cell BK6.out 0).trans rfl; have e1 : w3.cell? ⟨g6, 1, none⟩ = some (.int .i64 q.f1) := (blk_cell BK6.out 1).trans rfl; have e2 : w3.cell? ⟨g6, 2, none⟩ = some (.int .i64 q.f2) := (blk_cell BK6.out 2).trans rfl))
                | (go_at_call 34; clear M2; go_must (refine (course_moment.calls q.f2 (mom q.f2) _ (cmom _)).mono ?_; rw [HM2.out]; rintro e w4 ⟨rfl, hb⟩; have nHB := Aside0.mk (below_step HB.out hb.below); have nBK := Aside0.mk (blk_below BK6.out hb.below); have nBK3 := Aside0.mk (blk_below BK3.out hb.below); clear HB BK6 BK3 hb e0 e1 e2; have HB := nHB; have BK6 := nBK; have BK3 := nBK3; clear nHB nBK nBK3; have e0 : w4.cell? ⟨g6, 0, none⟩ = some (.int .i64 q.f0) := (blk_cell BK6.out 0).trans rfl; have e1 : w4.cell? ⟨g6, 1, none⟩ = some (.int .i64 q.f1) := (blk_cell BK6.out 1).trans rfl; have e2 : w4.cell? ⟨g6, 2, none⟩ = some (.int .i64 q.f2) := (blk_cell BK6.out 2).trans rfl)))
              go_roundg (l.length - (k + 1))
              case measure => have := HI.out; have := HK.out; omega
              case rel => exact ⟨k + 1, by first | rfl | (rw [q1]; rfl), ⟨by have := HK.out; omega⟩, HV, HB, BK3⟩
    · obtain rfl : k = l.length := by have := HI.out; omega
      rw [List.drop_length] at HA
      have HC1 := Aside0.mk (show ck1 l = 0 from HA.out.symm)
      have p1 := eq_false (show ¬ (l.length : Int) < (l.length : Int) by omega)
      clear hk HA HI
      have HG3 := Aside0.mk (show w.heap.size ≤ g3 from HGG.out)
      go_wp2
      go_loopg [7, 8, 40] l.length (fun kq v7 v8 v40 ws => ∃ k : Nat, v40 = .int .i64 (k : Int) ∧ Aside0 (k ≤ l.length ∧ kq = l.length - k) ∧ Aside0 (∀ i, i + 1 < k → (rd_T54 l ((i : Nat) : Int)).f0 < (rd_T54 l ((i + 1 : Nat) : Int)).f0) ∧ Aside0 (Below w.heap.size w ws) ∧ Aside0 (ws.heap[g3]? = some (.cells #[.int .i64 en] 3 (0, 0))))
      case atStart => exact ⟨0, rfl, ⟨by simp⟩, ⟨fun i h => by omega⟩, HB, BK3⟩
      case round =>
        clear HB BK3
        obtain ⟨k, rfl, HI, HA, HB, BK3⟩ := hrel
        by_cases hk : k < l.length
        · have HK := Aside0.mk hk
          obtain ⟨ad, rfl, f0, f1, f2⟩ := at_T54 (Kd.C_below HR.out HB.out) (k : Int) (by omega) (by omega)
          simp only [Int.toNat_natCast] at f0 f1 f2
          obtain ⟨q, hq⟩ : ∃ q, rd_T54 l (k : Int) = q := ⟨_, rfl⟩
          rw [hq] at f0 f1 f2
          have HQ := Aside0.mk hq
          have p1 := eq_true (show (k : Int) < (l.length : Int) by omega)
          have p2 := eq_true hk
          have q1 : wrap64 ((k : Int) + 1) = (k : Int) + 1 := by have := HN.out; unfold wrap64; omega
          clear hq hk
          go_upto_region 16 with (first
            | ((with_reducible refine gate_dst (N := 8) rfl ?_); go_must (refine box_event ?hg (N := 8) ?hd (cs := #[.int .i64 0, .int .i64 0, .int .i64 0]) (t := 54) ?hr ?_; (case hd => rfl); (case hg => rfl); (case hr => first | (go_simp; done) | (go_simp; rfl)); intro g8 hg w1 hbox hb; have BK8 := Aside0.mk hbox; have nBK3 := Aside0.mk (blk_below BK3.out hb); have HG8 := Aside0.mk (show w.heap.size ≤ g8 ∧ g3 ≠ g8 from ⟨by rw [hg]; exact HB.out.size, by rw [hg]; exact fun e => absurd (blk_lt BK3.out) (by omega)⟩); have nHB := Aside0.mk (below_step HB.out hb); have y0 : w1.cell? ⟨g8, 0, none⟩ = some (.int .i64 0) := (blk_cell hbox 0).trans rfl; have z0 := blk_frozen hbox 0; have y1 : w1.cell? ⟨g8, 1, none⟩ = some (.int .i64 0) := (blk_cell hbox 1).trans rfl; have z1 := blk_frozen hbox 1; have y2 : w1.cell? ⟨g8, 2, none⟩ = some (.int .i64 0) := (blk_cell hbox 2).trans rfl; have z2 := blk_frozen hbox 2; clear HB; clear BK3; have HB := nHB; clear nHB; have BK3 := nBK3; clear nBK3; clear hbox hb hg f0 f1 f2))
            | ((with_reducible refine gate_store (t := 54) (p := 8) rfl ?_); go_must (refine store_event (t := 54) (p := 8) (v := ?vo_w2_8) (w1 := (((w1.setCell ⟨g8, 0, none⟩ (.int .i64 q.f0)).setCell ⟨g8, 1, none⟩ (.int .i64 q.f1)).setCell ⟨g8, 2, none⟩ (.int .i64 q.f2))) ?hg ?ho ?hn ?hr ?_; (case ho => rfl); (case hg => rfl); (case hn => rfl); (case hr => first | (go_simp; done) | (go_simp; rfl)); intro w2 hw; have nBK8 := Aside0.mk (show w2.heap[g8]? = some (.cells #[.int .i64 q.f0, .int .i64 q.f1, .int .i64 q.f2] 54 (0, 0)) from (by rw [hw]; exact put_three BK8.out)); have nBK3 := Aside0.mk (show w2.heap[g3]? = some (.cells #[.int .i64 en] 3 (0, 0)) from (by rw [hw]; exact blk_far (blk_far (blk_far BK3.out (p := ⟨g8, 0, none⟩) HG8.out.2 _) (p := ⟨g8, 1, none⟩) HG8.out.2 _) (p := ⟨g8, 2, none⟩) HG8.out.2 _)); have nHB := Aside0.mk (show Below w.heap.size w w2 from (by rw [hw]; exact ((HB.out.setCell HG8.out.1 _).setCell HG8.out.1 _).setCell HG8.out.1 _)); clear BK8; clear BK3; clear HB; have BK8 := nBK8; clear nBK8; have BK3 := nBK3; clear nBK3; have HB := nHB; clear nHB; have e0 : w2.cell? ⟨g8, 0, none⟩ = some (.int .i64 q.f0) := (blk_cell BK8.out 0).trans rfl; clear hw y0 y1 y2 z0 z1 z2)))
          by_cases hk0 : k = 0
          · have HA2 := Aside0.mk (show ∀ i, i + 1 < k + 1 → (rd_T54 l ((i : Nat) : Int)).f0 < (rd_T54 l ((i + 1 : Nat) : Int)).f0 from fun i h => by omega)
            have k1 : decide ((0 : Int) < (k : Int)) = false := decide_eq_false (by omega)
            have k2 := eq_false (show ¬ ((0 : Int) < (k : Int)) by omega)
            have k3 := eq_false (show ¬ (0 < k) by omega)
            clear hk0
            go_quiet (fail)
            go_wp2
            go_roundg (l.length - (k + 1))
            case measure => have := HI.out; have := HK.out; omega
            case rel => exact ⟨k + 1, by first | rfl | (rw [q1]; rfl), ⟨by have := HK.out; omega⟩, HA2, ⟨HB.out.trans ((pw_below_drewN (Below.refl w2.heap.size w2) _).mono HB.out.size)⟩, ⟨blk_below BK3.out (pw_below_drewN (Below.refl w2.heap.size w2) _)⟩⟩
          · obtain ⟨j, hj⟩ : ∃ j, k = j + 1 := ⟨k - 1, by omega⟩
            obtain ⟨ad2, had2, f3, _, _⟩ := at_T54 (Kd.C_below HR.out HB.out) (j : Int) (by omega) (by have := HK.out; omega)
            obtain rfl := Option.some.inj had2
            simp only [Int.toNat_natCast] at f3
            obtain ⟨r, hr⟩ : ∃ r, rd_T54 l (j : Int) = r := ⟨_, rfl⟩
            rw [hr] at f3
            have HRR := Aside0.mk hr
            have HJ := Aside0.mk hj
            have k1 : decide ((0 : Int) < (k : Int)) = true := decide_eq_true (by omega)
            have k2 := eq_true (show ((0 : Int) < (k : Int)) by omega)
            have k3 := eq_true (show (0 < k) by omega)
            have k4 : wrap64 ((k : Int) - 1) = (j : Int) := by have := HK.out; have := HN.out; unfold wrap64; omega
            have k4' : IntKind.i64.wrap ((k : Int) - 1) = (j : Int) := by rw [IntKind.wrap_i64]; have := HK.out; have := HN.out; omega
            have k5 := eq_true (show (j : Int) < (l.length : Int) by have := HK.out; omega)
            have k6 := eq_true (show j < l.length by have := HK.out; omega)
            by_cases hlt : q.f0 ≤ r.f0
            · have HC9 := Aside0.mk (show ckS l en = 9 from by
                unfold ckS
                rw [if_pos HC1.out, if_neg ?_]
                intro h
                have h2 := of_decide_eq_true h j (by have := HK.out; omega)
                rw [hr, show ((j + 1 : Nat) : Int) = (k : Int) by omega, HQ.out] at h2
                omega)
              have k7 : decide (q.f0 ≤ r.f0) = true := decide_eq_true hlt
              have k8 := eq_true hlt
              clear hj hr hk0 hlt had2
              go_quiet (fail)
              go_wp2
              go_ret
              exact ⟨congrArg Ending.returned (congrArg (Value.int .i64) HC9.out.symm), pw_below_drewN HB.out _⟩
            · have HA2 := Aside0.mk (show ∀ i, i + 1 < k + 1 → (rd_T54 l ((i : Nat) : Int)).f0 < (rd_T54 l ((i + 1 : Nat) : Int)).f0 from fun i h => by
                by_cases hi : i + 1 < k
                · exact HA.out i hi
                · rw [show ((i : Nat) : Int) = (j : Int) by omega, show ((i + 1 : Nat) : Int) = (k : Int) by omega, hr, HQ.out]
                  omega)
              have k7 : decide (q.f0 ≤ r.f0) = false := decide_eq_false hlt
              have k8 := eq_false hlt
              clear hj hr hk0 hlt had2
              go_quiet (fail)
              go_wp2
              go_roundg (l.length - (k + 1))
              case measure => have := HI.out; have := HK.out; omega
              case rel => exact ⟨k + 1, by first | rfl | (rw [q1]; rfl), ⟨by have := HK.out; omega⟩, HA2, ⟨HB.out.trans ((pw_below_drewN (Below.refl w2.heap.size w2) _).mono HB.out.size)⟩, ⟨blk_below BK3.out (pw_below_drewN (Below.refl w2.heap.size w2) _)⟩⟩
        · obtain rfl : k = l.length := by have := HI.out; omega
          have HAS := Aside0.mk (show ascB l = true from decide_eq_true (fun i hi => HA.out i (by omega)))
          have p1 := eq_false (show ¬ (l.length : Int) < (l.length : Int) by omega)
          have x3 : wr.cell? ⟨g3, 0, none⟩ = some (.int .i64 en) := (blk_cell BK3.out 0).trans rfl
          have HX3 := Aside0.mk x3
          clear hk HA HI x3
          obtain ⟨b, hb_⟩ : ∃ b, l.any (fun q => decide (en ≤ q.f0)) = b := ⟨_, rfl⟩
          have HBB := Aside0.mk hb_
          have HCV := Aside0.mk (show ckS l en = (if b = true then 37 else 0) from by unfold ckS; rw [if_pos HC1.out, if_pos HAS.out, hb_])
          clear hb_
          cases b
          all_goals
            go_wp2_with (first | (go_at_call 35; go_must (refine (anyS_calls en l A cp g3 _ (Kd.C_below HR.out HB.out) (by have := HN.out; omega) HX3.out).mono ?_; rw [HBB.out]; rintro e w9 ⟨rfl, hb⟩; have nHB := Aside0.mk (below_step HB.out hb); clear HB hb; have HB := nHB; clear nHB)))
            go_ret
            exact ⟨congrArg Ending.returned (congrArg (Value.int .i64) HCV.out.symm), HB.out⟩
end Go.Proofs.Ytebifddfgimnlaa.Rl
end
