/- Contracts of the shelf, laid at this program. -/
import Derived.Shelf.Small.Bits
import Derived.Shelf.Small.Strs
import Derived.Shelf.Utf8.RuneCount
import Derived.Shelf.Strconv.Itoa0
import Derived.Shelf.Strings.Search1
import Derived.Shelf.Strings.Search2
import Derived.Shelf.Strings.Search3
import Derived.Shelf.Strings.Count
import Derived.Shelf.LaysM
import Derived.Shelf.Strings.Shaped
import Derived.Shelf.Sort.Plain
import Derived.Shelf.Strings.Split
import Derived.Shelf.Unicode.DecodeSlow
import Derived.Shelf.Unicode.DecodeAny
import Derived.Shelf.Slices.CompactS
import Derived.Shelf.Slices.Cells
import Derived.Shelf.Slices.In.SortNone
import Derived.Test.YtkgbgapheigjcaaDoorProg
namespace Go.Proofs.YtkgbgapheigjcaaDoor.Shelf
open Go.Proofs Go.RowKit
open Go.Shelf
def Tryd.lays137_ren:Go.Shelf.Ren:=⟨fun | 137=>55 | 217=>60 | 266=>65 | n=>n,fun | 9=>9 | 5=>5 | 3=>3 | n=>n,fun | n=>n⟩
theorem Tryd.lays137:Go.Proofs.Lays.n137 Tryd.prog Tryd.lays137_ren:={
  mixed:=by kernel_rfl
  f137:=Tryd.func55.trans (congrArg some (by kernel_rfl))
  f217:=Tryd.func60.trans (congrArg some (by kernel_rfl))
  f266:=Tryd.func65.trans (congrArg some (by kernel_rfl))
  t3:=Tryd.underlying3
  a3:=Tryd.isAgg3
  z3:=Tryd.sizeOf3
  v3:=Tryd.zeroValue3
  t5:=Tryd.underlying5
  a5:=Tryd.isAgg5
  z5:=Tryd.sizeOf5
  v5:=Tryd.zeroValue5
  t9:=Tryd.underlying9
  a9:=Tryd.isAgg9
  z9:=Tryd.sizeOf9
  v9:=Tryd.zeroValue9 }
open Go.RowKit in
/-- strings.IndexByte: "IndexByte returns the index of the first instance of c in s, or -1 if c is not present in s.": IT RETURNS 'Lib.indexByte s c'; the world is as it was. (LAID: no walk: one application.) -/
theorem Tryd.strings_IndexByte (s:ByteArray) (c:Int) (w:World) :
    Calls Tryd.prog 55 #[.string s,.int .u8 c] w fun e w'=>e=.returned (.int .i64 (Lib.indexByte s.data.toList c.toNat.toUInt8))∧w'=w:=Any.strings_IndexByte Tryd.lays137 s c w
def Tryd.lays190_ren:Go.Shelf.Ren:=⟨fun | 190=>8 | 125=>17 | 258=>16 | 128=>37 | 129=>38 | 302=>28 | 303=>29 | 304=>30 | 305=>31 | 306=>32 | 307=>33 | 308=>34 | 309=>35 | 310=>36 | 333=>43 | 329=>44 | 330=>45 | 334=>46 | 335=>47 | 336=>48 | 344=>51 | n=>n,fun | 31=>24 | 9=>9 | 3=>3 | 46=>51 | 0=>0 | 51=>70 | 53=>72 | 4=>4 | 183=>63 | 182=>62 | 131=>55 | 5=>5 | 218=>75 | 222=>79 | 228=>83 | 229=>84 | n=>n,fun | n=>n⟩
theorem Tryd.lays190:Go.Proofs.Lays.n190 Tryd.prog Tryd.lays190_ren:={
  mixed:=by kernel_rfl
  f125:=Tryd.func17.trans (congrArg some (by kernel_rfl))
  f128:=Tryd.func37.trans (congrArg some (by kernel_rfl))
  f129:=Tryd.func38.trans (congrArg some (by kernel_rfl))
  f190:=Tryd.func8.trans (congrArg some (by kernel_rfl))
  f258:=Tryd.func16.trans (congrArg some (by kernel_rfl))
  f302:=Tryd.func28.trans (congrArg some (by kernel_rfl))
  f303:=Tryd.func29.trans (congrArg some (by kernel_rfl))
  f304:=Tryd.func30.trans (congrArg some (by kernel_rfl))
  f305:=Tryd.func31.trans (congrArg some (by kernel_rfl))
  f306:=Tryd.func32.trans (congrArg some (by kernel_rfl))
  f307:=Tryd.func33.trans (congrArg some (by kernel_rfl))
  f308:=Tryd.func34.trans (congrArg some (by kernel_rfl))
  f309:=Tryd.func35.trans (congrArg some (by kernel_rfl))
  f310:=Tryd.func36.trans (congrArg some (by kernel_rfl))
  f329:=Tryd.func44.trans (congrArg some (by kernel_rfl))
  f330:=Tryd.func45.trans (congrArg some (by kernel_rfl))
  f333:=Tryd.func43.trans (congrArg some (by kernel_rfl))
  f334:=Tryd.func46.trans (congrArg some (by kernel_rfl))
  f335:=Tryd.func47.trans (congrArg some (by kernel_rfl))
  f336:=Tryd.func48.trans (congrArg some (by kernel_rfl))
  f344:=Tryd.func51.trans (congrArg some (by kernel_rfl))
  t0:=Tryd.underlying0
  a0:=Tryd.isAgg0
  z0:=Tryd.sizeOf0
  v0:=Tryd.zeroValue0
  t3:=Tryd.underlying3
  a3:=Tryd.isAgg3
  z3:=Tryd.sizeOf3
  v3:=Tryd.zeroValue3
  t4:=Tryd.underlying4
  a4:=Tryd.isAgg4
  z4:=Tryd.sizeOf4
  v4:=Tryd.zeroValue4
  t5:=Tryd.underlying5
  a5:=Tryd.isAgg5
  z5:=Tryd.sizeOf5
  v5:=Tryd.zeroValue5
  t9:=Tryd.underlying9
  a9:=Tryd.isAgg9
  z9:=Tryd.sizeOf9
  v9:=Tryd.zeroValue9
  t31:=Tryd.underlying24
  a31:=Tryd.isAgg24
  z31:=Tryd.sizeOf24
  v31:=Tryd.zeroValue24
  t46:=Tryd.underlying51
  a46:=Tryd.isAgg51
  z46:=Tryd.sizeOf51
  v46:=Tryd.zeroValue51
  t51:=Tryd.underlying70
  a51:=Tryd.isAgg70
  z51:=Tryd.sizeOf70
  v51:=Tryd.zeroValue70
  t53:=Tryd.underlying72
  a53:=Tryd.isAgg72
  z53:=Tryd.sizeOf72
  v53:=Tryd.zeroValue72
  t131:=Tryd.underlying55
  a131:=Tryd.isAgg55
  z131:=Tryd.sizeOf55
  v131:=Tryd.zeroValue55
  t182:=Tryd.underlying62
  a182:=Tryd.isAgg62
  z182:=Tryd.sizeOf62
  v182:=Tryd.zeroValue62
  t183:=Tryd.underlying63
  a183:=Tryd.isAgg63
  z183:=Tryd.sizeOf63
  v183:=Tryd.zeroValue63
  t218:=Tryd.underlying75
  a218:=Tryd.isAgg75
  z218:=Tryd.sizeOf75
  v218:=Tryd.zeroValue75
  t222:=Tryd.underlying79
  a222:=Tryd.isAgg79
  z222:=Tryd.sizeOf79
  v222:=Tryd.zeroValue79
  t228:=Tryd.underlying83
  a228:=Tryd.isAgg83
  z228:=Tryd.sizeOf83
  v228:=Tryd.zeroValue83
  t229:=Tryd.underlying84
  a229:=Tryd.isAgg84
  z229:=Tryd.sizeOf84
  v229:=Tryd.zeroValue84 }
open Go.Sort Go.RowKit in
theorem Tryd.slices_Sort_string (blk off cap:Nat) (ss:List (List UInt8)) (w:World) (hH:Holds encStr w blk off ss.toArray) (hblk:blk<w.heap.size) (hsz:ss.length<4611686018427387904) :
    Calls Tryd.prog 8 #[.slice (some ⟨blk,off,none⟩) ss.length cap] w fun e w' =>
      e=.returned (.tuple #[])∧∃ n os,w'=grow (putRow encStr (Sort.ahead w n) blk off (ss.mergeSort fun x y=>decide (x≤y)).toArray) os:=Any.slices_Sort_string Tryd.lays190 blk off cap ss w hH hblk hsz
def Tryd.lays146_ren:Go.Shelf.Ren:=⟨fun | 146=>39 | 221=>49 | 268=>52 | 138=>53 | 143=>54 | 195=>56 | 197=>57 | 218=>58 | 219=>59 | 260=>61 | 217=>60 | 225=>62 | 224=>63 | 267=>64 | 266=>65 | 314=>66 | n=>n,fun | 9=>9 | 31=>24 | 3=>3 | 4=>4 | 0=>0 | 105=>90 | 21=>21 | 5=>5 | 46=>51 | 119=>93 | 139=>96 | 138=>95 | 146=>97 | 51=>70 | n=>n,fun | 1=>0 | 3=>1 | 4=>2 | n=>n⟩
theorem Tryd.lays146:Go.Proofs.Lays.n146 Tryd.prog Tryd.lays146_ren:={
  mixed:=by kernel_rfl
  f138:=Tryd.func53.trans (congrArg some (by kernel_rfl))
  f143:=Tryd.func54.trans (congrArg some (by kernel_rfl))
  f146:=Tryd.func39.trans (congrArg some (by kernel_rfl))
  f195:=Tryd.func56.trans (congrArg some (by kernel_rfl))
  f197:=Tryd.func57.trans (congrArg some (by kernel_rfl))
  f217:=Tryd.func60.trans (congrArg some (by kernel_rfl))
  f218:=Tryd.func58.trans (congrArg some (by kernel_rfl))
  f219:=Tryd.func59.trans (congrArg some (by kernel_rfl))
  f221:=Tryd.func49.trans (congrArg some (by kernel_rfl))
  f224:=Tryd.func63.trans (congrArg some (by kernel_rfl))
  f225:=Tryd.func62.trans (congrArg some (by kernel_rfl))
  f260:=Tryd.func61.trans (congrArg some (by kernel_rfl))
  f266:=Tryd.func65.trans (congrArg some (by kernel_rfl))
  f267:=Tryd.func64.trans (congrArg some (by kernel_rfl))
  f268:=Tryd.func52.trans (congrArg some (by kernel_rfl))
  f314:=Tryd.func66.trans (congrArg some (by kernel_rfl))
  t0:=Tryd.underlying0
  a0:=Tryd.isAgg0
  z0:=Tryd.sizeOf0
  v0:=Tryd.zeroValue0
  t3:=Tryd.underlying3
  a3:=Tryd.isAgg3
  z3:=Tryd.sizeOf3
  v3:=Tryd.zeroValue3
  t4:=Tryd.underlying4
  a4:=Tryd.isAgg4
  z4:=Tryd.sizeOf4
  v4:=Tryd.zeroValue4
  t5:=Tryd.underlying5
  a5:=Tryd.isAgg5
  z5:=Tryd.sizeOf5
  v5:=Tryd.zeroValue5
  t9:=Tryd.underlying9
  a9:=Tryd.isAgg9
  z9:=Tryd.sizeOf9
  v9:=Tryd.zeroValue9
  t21:=Tryd.underlying21
  a21:=Tryd.isAgg21
  z21:=Tryd.sizeOf21
  v21:=Tryd.zeroValue21
  t31:=Tryd.underlying24
  a31:=Tryd.isAgg24
  z31:=Tryd.sizeOf24
  v31:=Tryd.zeroValue24
  t46:=Tryd.underlying51
  a46:=Tryd.isAgg51
  z46:=Tryd.sizeOf51
  v46:=Tryd.zeroValue51
  t51:=Tryd.underlying70
  a51:=Tryd.isAgg70
  z51:=Tryd.sizeOf70
  v51:=Tryd.zeroValue70
  t105:=Tryd.underlying90
  a105:=Tryd.isAgg90
  z105:=Tryd.sizeOf90
  v105:=Tryd.zeroValue90
  t119:=Tryd.underlying93
  a119:=Tryd.isAgg93
  z119:=Tryd.sizeOf93
  t138:=Tryd.underlying95
  a138:=Tryd.isAgg95
  z138:=Tryd.sizeOf95
  v138:=Tryd.zeroValue95
  t139:=Tryd.underlying96
  a139:=Tryd.isAgg96
  z139:=Tryd.sizeOf96
  v139:=Tryd.zeroValue96
  t146:=Tryd.underlying97
  a146:=Tryd.isAgg97
  z146:=Tryd.sizeOf97
  v146:=Tryd.zeroValue97
  g1:=by kernel_rfl
  g3:=by kernel_rfl
  g4:=by kernel_rfl }
open Go.RowKit Go.Lib in
/-- strings.Split. (LAID: no walk: one application.) -/
theorem Tryd.strings_Split (s sep:ByteArray) (m:Int) (w:World) (hs:s.size<4294967281) (hm:w.cell? ⟨0,0,none⟩=some (.int .i64 m)) (h1:1≤sep.size) :
    Calls Tryd.prog 39 #[.string s,.string sep] w fun e w' =>
      e=.returned (.slice (some ⟨w.heap.size,0,none⟩) (Lib.countB s sep+1) (Lib.countB s sep+1))∧w'=w.alloc (.cells ((Lib.splitB sep 0 (Lib.countB s sep) s).map Value.string).toArray 9):=Any.strings_Split Tryd.lays146 (by kernel_rfl) s sep m w hs hm h1
def Tryd.lays194_ren:Go.Shelf.Ren:=⟨fun | 194=>10 | n=>n,fun | 31=>24 | 9=>9 | 3=>3 | 4=>4 | 0=>0 | n=>n,fun | n=>n⟩
theorem Tryd.lays194:Go.Proofs.Lays.n194 Tryd.prog Tryd.lays194_ren:={
  mixed:=by kernel_rfl
  f194:=Tryd.func10.trans (congrArg some (by kernel_rfl))
  t0:=Tryd.underlying0
  a0:=Tryd.isAgg0
  z0:=Tryd.sizeOf0
  v0:=Tryd.zeroValue0
  t3:=Tryd.underlying3
  a3:=Tryd.isAgg3
  z3:=Tryd.sizeOf3
  v3:=Tryd.zeroValue3
  t4:=Tryd.underlying4
  a4:=Tryd.isAgg4
  z4:=Tryd.sizeOf4
  v4:=Tryd.zeroValue4
  t9:=Tryd.underlying9
  a9:=Tryd.isAgg9
  z9:=Tryd.sizeOf9
  v9:=Tryd.zeroValue9
  t31:=Tryd.underlying24
  a31:=Tryd.isAgg24
  z31:=Tryd.sizeOf24
  v31:=Tryd.zeroValue24 }
open Go.RowKit Go.Lib Go.Sort in
/-- slices.Compact at []string: "Compact replaces consecutive runs of equal elements with a single copy. This is like the uniq command found on Unix. Compact modifies the contents of the slice s and returns the modified slice, which may have a smaller length. Compact zeroes the elements between the new length and the original length. The result preserves the nilness of s.": IT RETURNS THE SLICE CUT TO 'Lib.compact zs'; ITS CELLS HOLD 'Lib.compact zs', THEN ZERO VALUES up to the old length; all else is as it was, but for the count of draws. IN THE WORDS OF slices.Sort's CONTRACT ('Holds', 'putRow'): so the everyday 'slices.Sort(xs); xs = slices.Compact(xs)' goes from the one contract to the other. It asks 'zs.length ≤ cap' (every slice's: the reslicing 's[:k]' looks at it). Length 0, nil: '.._empty'. (LAID: no walk: one application.) -/
theorem Tryd.slices_Compact_string (blk off cap:Nat) (zs:List (List UInt8)) (w:World) (hH:Holds encStr w blk off zs.toArray) (hsz:zs.length≤9223372036854775807) (hcap:zs.length≤cap) :
    Calls Tryd.prog 10 #[.slice (some ⟨blk,off,none⟩) zs.length cap] w fun e w'=>e=.returned (.slice (some ⟨blk,off,none⟩) (Lib.compact zs).length cap)∧∃ q,w'=putRow encStr (Sort.ahead w q) blk off (Lib.compact zs++List.replicate (zs.length - (Lib.compact zs).length) []).toArray:=Any.slices_Compact_string Tryd.lays194 blk off cap zs w hH hsz hcap
open Go.RowKit Go.Lib Go.Sort in
/-- The same at a slice of length 0, a nil one too: it comes back as it is. (LAID: no walk: one application.) -/
theorem Tryd.slices_Compact_string_empty (a:Option Addr) (cap:Nat) (w:World) :
    Calls Tryd.prog 10 #[.slice a 0 cap] w fun e w'=>e=.returned (.slice a 0 cap)∧w'=w:=Any.slices_Compact_string_empty Tryd.lays194 a cap w
open Go.RowKit Go.Sort in
/-- .. and plain. (LAID: no walk: one application.) -/
theorem Tryd.slices_Sort_string_none (p:Option Addr) (cap:Nat) (w:World) :
    Calls Tryd.prog 8 #[.slice p 0 cap] w fun e w'=>e=.returned (.tuple #[])∧w'=w:=Any.slices_Sort_string_none Tryd.lays190 p cap w
end Go.Proofs.YtkgbgapheigjcaaDoor.Shelf
