/-
  The contracts of slices.Sort, slices.Clone, slices.Compact at strings, as they stand in the library, at this program.
-/
import Derived.Shelf.Sort.Plain
import Derived.Shelf.Slices.In.SortNone
import Derived.Shelf.Slices.Clone
import Derived.Shelf.Slices.CompactS
import Derived.Test.YtfofgbiipppocaaProg
namespace Go.Proofs.Ytfofgbiipppocaa.XS
open Go.Shelf
def q_lays190_ren : Go.Shelf.Ren := ⟨fun | 190 => 16 | 125 => 20 | 258 => 19 | 128 => 30 | 129 => 31 | 302 => 21 | 303 => 22 | 304 => 23 | 305 => 24 | 306 => 25 | 307 => 26 | 308 => 27 | 309 => 28 | 310 => 29 | 333 => 32 | 329 => 33 | 330 => 34 | 334 => 35 | 335 => 36 | 336 => 37 | 344 => 38 | n => n, fun | 31 => 25 | 9 => 9 | 3 => 3 | 46 => 37 | 0 => 0 | 51 => 47 | 53 => 49 | 4 => 4 | 183 => 40 | 182 => 39 | 131 => 44 | 5 => 5 | 218 => 50 | 222 => 54 | 228 => 56 | 229 => 57 | n => n, fun | n => n⟩
theorem q_lays190 : Go.Proofs.Lays.n190 Try.prog q_lays190_ren := {
  mixed := by kernel_rfl
  f125 := Try.func20.trans (congrArg some (by kernel_rfl))
  f128 := Try.func30.trans (congrArg some (by kernel_rfl))
  f129 := Try.func31.trans (congrArg some (by kernel_rfl))
  f190 := Try.func16.trans (congrArg some (by kernel_rfl))
  f258 := Try.func19.trans (congrArg some (by kernel_rfl))
  f302 := Try.func21.trans (congrArg some (by kernel_rfl))
  f303 := Try.func22.trans (congrArg some (by kernel_rfl))
  f304 := Try.func23.trans (congrArg some (by kernel_rfl))
  f305 := Try.func24.trans (congrArg some (by kernel_rfl))
  f306 := Try.func25.trans (congrArg some (by kernel_rfl))
  f307 := Try.func26.trans (congrArg some (by kernel_rfl))
  f308 := Try.func27.trans (congrArg some (by kernel_rfl))
  f309 := Try.func28.trans (congrArg some (by kernel_rfl))
  f310 := Try.func29.trans (congrArg some (by kernel_rfl))
  f329 := Try.func33.trans (congrArg some (by kernel_rfl))
  f330 := Try.func34.trans (congrArg some (by kernel_rfl))
  f333 := Try.func32.trans (congrArg some (by kernel_rfl))
  f334 := Try.func35.trans (congrArg some (by kernel_rfl))
  f335 := Try.func36.trans (congrArg some (by kernel_rfl))
  f336 := Try.func37.trans (congrArg some (by kernel_rfl))
  f344 := Try.func38.trans (congrArg some (by kernel_rfl))
  t0 := Try.underlying0
  a0 := Try.isAgg0
  z0 := Try.sizeOf0
  v0 := Try.zeroValue0
  t3 := Try.underlying3
  a3 := Try.isAgg3
  z3 := Try.sizeOf3
  v3 := Try.zeroValue3
  t4 := Try.underlying4
  a4 := Try.isAgg4
  z4 := Try.sizeOf4
  v4 := Try.zeroValue4
  t5 := Try.underlying5
  a5 := Try.isAgg5
  z5 := Try.sizeOf5
  v5 := Try.zeroValue5
  t9 := Try.underlying9
  a9 := Try.isAgg9
  z9 := Try.sizeOf9
  v9 := Try.zeroValue9
  t31 := Try.underlying25
  a31 := Try.isAgg25
  z31 := Try.sizeOf25
  v31 := Try.zeroValue25
  t46 := Try.underlying37
  a46 := Try.isAgg37
  z46 := Try.sizeOf37
  v46 := Try.zeroValue37
  t51 := Try.underlying47
  a51 := Try.isAgg47
  z51 := Try.sizeOf47
  v51 := Try.zeroValue47
  t53 := Try.underlying49
  a53 := Try.isAgg49
  z53 := Try.sizeOf49
  v53 := Try.zeroValue49
  t131 := Try.underlying44
  a131 := Try.isAgg44
  z131 := Try.sizeOf44
  v131 := Try.zeroValue44
  t182 := Try.underlying39
  a182 := Try.isAgg39
  z182 := Try.sizeOf39
  v182 := Try.zeroValue39
  t183 := Try.underlying40
  a183 := Try.isAgg40
  z183 := Try.sizeOf40
  v183 := Try.zeroValue40
  t218 := Try.underlying50
  a218 := Try.isAgg50
  z218 := Try.sizeOf50
  v218 := Try.zeroValue50
  t222 := Try.underlying54
  a222 := Try.isAgg54
  z222 := Try.sizeOf54
  v222 := Try.zeroValue54
  t228 := Try.underlying56
  a228 := Try.isAgg56
  z228 := Try.sizeOf56
  v228 := Try.zeroValue56
  t229 := Try.underlying57
  a229 := Try.isAgg57
  z229 := Try.sizeOf57
  v229 := Try.zeroValue57 }
open Go.Sort Go.RowKit in
theorem q_slices_Sort_string (blk off cap : Nat) (ss : List (List UInt8)) (w : World) (hH : Holds encStr w blk off ss.toArray) (hblk : blk < w.heap.size) (hsz : ss.length < 4611686018427387904) :
    Calls Try.prog 16 #[.slice (some ⟨blk, off, none⟩) ss.length cap] w fun e w' =>
      e = .returned (.tuple #[]) ∧ ∃ n os, w' = grow (putRow encStr (Sort.ahead w n) blk off (ss.mergeSort fun x y => decide (x ≤ y)).toArray) os := Any.slices_Sort_string q_lays190 blk off cap ss w hH hblk hsz
def q_laysNm216_ren : Go.Shelf.Ren := ⟨fun | 16 => 14 | n => n, fun | 24 => 25 | 9 => 9 | 4 => 4 | n => n, fun | n => n⟩
theorem q_laysNm216 : Go.Proofs.Lays2.n16 Try.prog q_laysNm216_ren := {
  mixed := by kernel_rfl
  f16 := Try.func14.trans (congrArg some (by kernel_rfl))
  t4 := Try.underlying4
  a4 := Try.isAgg4
  z4 := Try.sizeOf4
  v4 := Try.zeroValue4
  t9 := Try.underlying9
  a9 := Try.isAgg9
  z9 := Try.sizeOf9
  v9 := Try.zeroValue9
  t24 := Try.underlying25
  a24 := Try.isAgg25
  z24 := Try.sizeOf25
  v24 := Try.zeroValue25
  i9 := by kernel_rfl }
open Go.RowKit Go.Lib in
theorem q_slices_Clone_string (b off n c : Nat) (zs : List ByteArray) (w : World) (hz : n ≤ zs.length) (hbig : n * 16 ≤ 140737488355328) (hc : ∀ j, j < zs.length → w.cell? ⟨b, off + j, none⟩ = some (.string (zs.getD j ByteArray.empty))) :
    Calls Try.prog 14 #[.slice (some ⟨b, off, none⟩) n c] w fun e w' => ∃ v', e = .returned v' ∧ w'.ownsRow w.heap.size 9 1 v' n ((zs.take n).map (Value.string)) ∧ v' ≠ .slice none 0 0 ∧ Below w.heap.size w w' := Any.slices_Clone_string q_laysNm216 b off n c zs w hz hbig hc
open Go.RowKit Go.Lib in
theorem q_slices_Clone_string_nil (n c : Nat) (w : World) :
    Calls Try.prog 14 #[.slice none n c] w fun e w' => e = .returned (.slice none 0 0) ∧ w' = w := Any.slices_Clone_string_nil q_laysNm216 n c w
open Go.RowKit Go.Lib in
theorem q_slices_Clone_string_zero (a : Addr) (c : Nat) (w : World) :
    Calls Try.prog 14 #[.slice (some a) 0 c] w fun e w' => ∃ v', e = .returned v' ∧ w'.ownsRow w.heap.size 9 1 v' 0 [] ∧ v' ≠ .slice none 0 0 ∧ Below w.heap.size w w' := Any.slices_Clone_string_zero q_laysNm216 a c w
def q_lays194_ren : Go.Shelf.Ren := ⟨fun | 194 => 17 | n => n, fun | 31 => 25 | 9 => 9 | 3 => 3 | 4 => 4 | 0 => 0 | n => n, fun | n => n⟩
theorem q_lays194 : Go.Proofs.Lays.n194 Try.prog q_lays194_ren := {
  mixed := by kernel_rfl
  f194 := Try.func17.trans (congrArg some (by kernel_rfl))
  t0 := Try.underlying0
  a0 := Try.isAgg0
  z0 := Try.sizeOf0
  v0 := Try.zeroValue0
  t3 := Try.underlying3
  a3 := Try.isAgg3
  z3 := Try.sizeOf3
  v3 := Try.zeroValue3
  t4 := Try.underlying4
  a4 := Try.isAgg4
  z4 := Try.sizeOf4
  v4 := Try.zeroValue4
  t9 := Try.underlying9
  a9 := Try.isAgg9
  z9 := Try.sizeOf9
  v9 := Try.zeroValue9
  t31 := Try.underlying25
  a31 := Try.isAgg25
  z31 := Try.sizeOf25
  v31 := Try.zeroValue25 }
open Go.RowKit Go.Lib Go.Sort in
theorem q_slices_Compact_string (blk off cap : Nat) (zs : List (List UInt8)) (w : World) (hH : Holds encStr w blk off zs.toArray) (hsz : zs.length ≤ 9223372036854775807) (hcap : zs.length ≤ cap) :
    Calls Try.prog 17 #[.slice (some ⟨blk, off, none⟩) zs.length cap] w fun e w' => e = .returned (.slice (some ⟨blk, off, none⟩) (Lib.compact zs).length cap) ∧ ∃ q, w' = putRow encStr (Sort.ahead w q) blk off (Lib.compact zs ++ List.replicate (zs.length - (Lib.compact zs).length) []).toArray := Any.slices_Compact_string q_lays194 blk off cap zs w hH hsz hcap
open Go.RowKit Go.Lib Go.Sort in
theorem q_slices_Compact_string_empty (a : Option Addr) (cap : Nat) (w : World) :
    Calls Try.prog 17 #[.slice a 0 cap] w fun e w' => e = .returned (.slice a 0 cap) ∧ w' = w := Any.slices_Compact_string_empty q_lays194 a cap w
open Go.Sort Go.RowKit in
theorem q_slices_Sort_string_none (p : Option Addr) (cap : Nat) (w : World) :
    Calls Try.prog 16 #[.slice p 0 cap] w fun e w' => e = .returned (.tuple #[]) ∧ w' = w := Any.slices_Sort_string_none q_lays190 p cap w
end Go.Proofs.Ytfofgbiipppocaa.XS
