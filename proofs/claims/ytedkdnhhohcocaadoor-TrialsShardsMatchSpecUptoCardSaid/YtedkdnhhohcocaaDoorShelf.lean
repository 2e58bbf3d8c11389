/- Contracts of the shelf, laid at this program. -/
import Derived.Shelf.Strings.Trim
import Derived.Shelf.Small.Utf8
import Derived.Shelf.Small.Bits
import Derived.Shelf.Small.Strs
import Derived.Shelf.Small.Wraps
import Derived.Shelf.Utf8.RuneCount
import Derived.Shelf.Strconv.Itoa0
import Derived.Shelf.Strings.Search1
import Derived.Shelf.Strings.Search2
import Derived.Shelf.Strings.Search3
import Derived.Shelf.Strings.Count
import Derived.Shelf.LaysM
import Derived.Shelf.Strings.Shaped
import Derived.Shelf.Sort.Plain
import Derived.Shelf.Strings.Split
import Derived.Shelf.Strings.SplitShaped
import Derived.Shelf.Unicode.Decode
import Derived.Shelf.Strings.Runes
import Derived.Shelf.Strings.RuneCount
import Derived.Shelf.Strings.AsciiSet
import Derived.Shelf.Strings.Explode
import Derived.Shelf.Unicode.DecodeSlow
import Derived.Shelf.Unicode.DecodeAny
import Derived.Shelf.Unicode.DecodeLast
import Derived.Shelf.Slices.Turned
import Derived.Shelf.Slices.Equal
import Derived.Shelf.Slices.Clone
import Derived.Shelf.Slices.SearchI
import Derived.Shelf.Slices.In.SortNone
import Derived.Shelf.Slices.Empties2
import Derived.Shelf.SlicesE.Clone
import Derived.Shelf.Strings.SlTrimAscii
import Derived.Test.YtedkdnhhohcocaaDoorProg
namespace Go.Proofs.YtedkdnhhohcocaaDoor.Shelf
open Go.Proofs Go.RowKit
open Go.Shelf
def Tryd.lays137_ren:Go.Shelf.Ren:=⟨fun | 137=>69 | 217=>85 | 266=>94 | n=>n,fun | 9=>9 | 5=>5 | 3=>3 | n=>n,fun | n=>n⟩
theorem Tryd.lays137:Go.Proofs.Lays.n137 Tryd.prog Tryd.lays137_ren:={
  mixed:=by kernel_rfl
  f137:=Tryd.func69.trans (congrArg some (by kernel_rfl))
  f217:=Tryd.func85.trans (congrArg some (by kernel_rfl))
  f266:=Tryd.func94.trans (congrArg some (by kernel_rfl))
  t3:=Tryd.underlying3
  a3:=Tryd.isAgg3
  z3:=Tryd.sizeOf3
  v3:=Tryd.zeroValue3
  t5:=Tryd.underlying5
  a5:=Tryd.isAgg5
  z5:=Tryd.sizeOf5
  v5:=Tryd.zeroValue5
  t9:=Tryd.underlying9
  a9:=Tryd.isAgg9
  z9:=Tryd.sizeOf9
  v9:=Tryd.zeroValue9 }
open Go.RowKit in
/-- strings.IndexByte: "IndexByte returns the index of the first instance of c in s, or -1 if c is not present in s.": IT RETURNS 'Lib.indexByte s c'; the world is as it was. (LAID: no walk: one application.) -/
theorem Tryd.strings_IndexByte (s:ByteArray) (c:Int) (w:World) :
    Calls Tryd.prog 69 #[.string s,.int .u8 c] w fun e w'=>e=.returned (.int .i64 (Lib.indexByte s.data.toList c.toNat.toUInt8))∧w'=w:=Any.strings_IndexByte Tryd.lays137 s c w
def Tryd.lays190_ren:Go.Shelf.Ren:=⟨fun | 190=>23 | 125=>38 | 258=>37 | 128=>57 | 129=>58 | 302=>48 | 303=>49 | 304=>50 | 305=>51 | 306=>52 | 307=>53 | 308=>54 | 309=>55 | 310=>56 | 333=>71 | 329=>72 | 330=>73 | 334=>74 | 335=>75 | 336=>76 | 344=>87 | n=>n,fun | 31=>41 | 9=>9 | 3=>3 | 46=>67 | 0=>0 | 51=>83 | 53=>85 | 4=>4 | 183=>76 | 182=>75 | 131=>56 | 5=>5 | 218=>96 | 222=>100 | 228=>108 | 229=>109 | n=>n,fun | n=>n⟩
theorem Tryd.lays190:Go.Proofs.Lays.n190 Tryd.prog Tryd.lays190_ren:={
  mixed:=by kernel_rfl
  f125:=Tryd.func38.trans (congrArg some (by kernel_rfl))
  f128:=Tryd.func57.trans (congrArg some (by kernel_rfl))
  f129:=Tryd.func58.trans (congrArg some (by kernel_rfl))
  f190:=Tryd.func23.trans (congrArg some (by kernel_rfl))
  f258:=Tryd.func37.trans (congrArg some (by kernel_rfl))
  f302:=Tryd.func48.trans (congrArg some (by kernel_rfl))
  f303:=Tryd.func49.trans (congrArg some (by kernel_rfl))
  f304:=Tryd.func50.trans (congrArg some (by kernel_rfl))
  f305:=Tryd.func51.trans (congrArg some (by kernel_rfl))
  f306:=Tryd.func52.trans (congrArg some (by kernel_rfl))
  f307:=Tryd.func53.trans (congrArg some (by kernel_rfl))
  f308:=Tryd.func54.trans (congrArg some (by kernel_rfl))
  f309:=Tryd.func55.trans (congrArg some (by kernel_rfl))
  f310:=Tryd.func56.trans (congrArg some (by kernel_rfl))
  f329:=Tryd.func72.trans (congrArg some (by kernel_rfl))
  f330:=Tryd.func73.trans (congrArg some (by kernel_rfl))
  f333:=Tryd.func71.trans (congrArg some (by kernel_rfl))
  f334:=Tryd.func74.trans (congrArg some (by kernel_rfl))
  f335:=Tryd.func75.trans (congrArg some (by kernel_rfl))
  f336:=Tryd.func76.trans (congrArg some (by kernel_rfl))
  f344:=Tryd.func87.trans (congrArg some (by kernel_rfl))
  t0:=Tryd.underlying0
  a0:=Tryd.isAgg0
  z0:=Tryd.sizeOf0
  v0:=Tryd.zeroValue0
  t3:=Tryd.underlying3
  a3:=Tryd.isAgg3
  z3:=Tryd.sizeOf3
  v3:=Tryd.zeroValue3
  t4:=Tryd.underlying4
  a4:=Tryd.isAgg4
  z4:=Tryd.sizeOf4
  v4:=Tryd.zeroValue4
  t5:=Tryd.underlying5
  a5:=Tryd.isAgg5
  z5:=Tryd.sizeOf5
  v5:=Tryd.zeroValue5
  t9:=Tryd.underlying9
  a9:=Tryd.isAgg9
  z9:=Tryd.sizeOf9
  v9:=Tryd.zeroValue9
  t31:=Tryd.underlying41
  a31:=Tryd.isAgg41
  z31:=Tryd.sizeOf41
  v31:=Tryd.zeroValue41
  t46:=Tryd.underlying67
  a46:=Tryd.isAgg67
  z46:=Tryd.sizeOf67
  v46:=Tryd.zeroValue67
  t51:=Tryd.underlying83
  a51:=Tryd.isAgg83
  z51:=Tryd.sizeOf83
  v51:=Tryd.zeroValue83
  t53:=Tryd.underlying85
  a53:=Tryd.isAgg85
  z53:=Tryd.sizeOf85
  v53:=Tryd.zeroValue85
  t131:=Tryd.underlying56
  a131:=Tryd.isAgg56
  z131:=Tryd.sizeOf56
  v131:=Tryd.zeroValue56
  t182:=Tryd.underlying75
  a182:=Tryd.isAgg75
  z182:=Tryd.sizeOf75
  v182:=Tryd.zeroValue75
  t183:=Tryd.underlying76
  a183:=Tryd.isAgg76
  z183:=Tryd.sizeOf76
  v183:=Tryd.zeroValue76
  t218:=Tryd.underlying96
  a218:=Tryd.isAgg96
  z218:=Tryd.sizeOf96
  v218:=Tryd.zeroValue96
  t222:=Tryd.underlying100
  a222:=Tryd.isAgg100
  z222:=Tryd.sizeOf100
  v222:=Tryd.zeroValue100
  t228:=Tryd.underlying108
  a228:=Tryd.isAgg108
  z228:=Tryd.sizeOf108
  v228:=Tryd.zeroValue108
  t229:=Tryd.underlying109
  a229:=Tryd.isAgg109
  z229:=Tryd.sizeOf109
  v229:=Tryd.zeroValue109 }
open Go.Sort Go.RowKit in
theorem Tryd.slices_Sort_string (blk off cap:Nat) (ss:List (List UInt8)) (w:World) (hH:Holds encStr w blk off ss.toArray) (hblk:blk<w.heap.size) (hsz:ss.length<4611686018427387904) :
    Calls Tryd.prog 23 #[.slice (some ⟨blk,off,none⟩) ss.length cap] w fun e w' =>
      e=.returned (.tuple #[])∧∃ n os,w'=grow (putRow encStr (Sort.ahead w n) blk off (ss.mergeSort fun x y=>decide (x≤y)).toArray) os:=Any.slices_Sort_string Tryd.lays190 blk off cap ss w hH hblk hsz
def Tryd.lays146_ren:Go.Shelf.Ren:=⟨fun | 146=>41 | 221=>60 | 268=>78 | 138=>79 | 143=>80 | 195=>88 | 197=>82 | 218=>89 | 219=>90 | 260=>91 | 217=>85 | 225=>95 | 224=>96 | 267=>97 | 266=>94 | 314=>99 | n=>n,fun | 9=>9 | 31=>41 | 3=>3 | 4=>4 | 0=>0 | 105=>105 | 21=>21 | 5=>5 | 46=>67 | 119=>114 | 139=>117 | 138=>116 | 146=>119 | 51=>83 | n=>n,fun | 1=>0 | 3=>1 | 4=>2 | n=>n⟩
theorem Tryd.lays146:Go.Proofs.Lays.n146 Tryd.prog Tryd.lays146_ren:={
  mixed:=by kernel_rfl
  f138:=Tryd.func79.trans (congrArg some (by kernel_rfl))
  f143:=Tryd.func80.trans (congrArg some (by kernel_rfl))
  f146:=Tryd.func41.trans (congrArg some (by kernel_rfl))
  f195:=Tryd.func88.trans (congrArg some (by kernel_rfl))
  f197:=Tryd.func82.trans (congrArg some (by kernel_rfl))
  f217:=Tryd.func85.trans (congrArg some (by kernel_rfl))
  f218:=Tryd.func89.trans (congrArg some (by kernel_rfl))
  f219:=Tryd.func90.trans (congrArg some (by kernel_rfl))
  f221:=Tryd.func60.trans (congrArg some (by kernel_rfl))
  f224:=Tryd.func96.trans (congrArg some (by kernel_rfl))
  f225:=Tryd.func95.trans (congrArg some (by kernel_rfl))
  f260:=Tryd.func91.trans (congrArg some (by kernel_rfl))
  f266:=Tryd.func94.trans (congrArg some (by kernel_rfl))
  f267:=Tryd.func97.trans (congrArg some (by kernel_rfl))
  f268:=Tryd.func78.trans (congrArg some (by kernel_rfl))
  f314:=Tryd.func99.trans (congrArg some (by kernel_rfl))
  t0:=Tryd.underlying0
  a0:=Tryd.isAgg0
  z0:=Tryd.sizeOf0
  v0:=Tryd.zeroValue0
  t3:=Tryd.underlying3
  a3:=Tryd.isAgg3
  z3:=Tryd.sizeOf3
  v3:=Tryd.zeroValue3
  t4:=Tryd.underlying4
  a4:=Tryd.isAgg4
  z4:=Tryd.sizeOf4
  v4:=Tryd.zeroValue4
  t5:=Tryd.underlying5
  a5:=Tryd.isAgg5
  z5:=Tryd.sizeOf5
  v5:=Tryd.zeroValue5
  t9:=Tryd.underlying9
  a9:=Tryd.isAgg9
  z9:=Tryd.sizeOf9
  v9:=Tryd.zeroValue9
  t21:=Tryd.underlying21
  a21:=Tryd.isAgg21
  z21:=Tryd.sizeOf21
  v21:=Tryd.zeroValue21
  t31:=Tryd.underlying41
  a31:=Tryd.isAgg41
  z31:=Tryd.sizeOf41
  v31:=Tryd.zeroValue41
  t46:=Tryd.underlying67
  a46:=Tryd.isAgg67
  z46:=Tryd.sizeOf67
  v46:=Tryd.zeroValue67
  t51:=Tryd.underlying83
  a51:=Tryd.isAgg83
  z51:=Tryd.sizeOf83
  v51:=Tryd.zeroValue83
  t105:=Tryd.underlying105
  a105:=Tryd.isAgg105
  z105:=Tryd.sizeOf105
  v105:=Tryd.zeroValue105
  t119:=Tryd.underlying114
  a119:=Tryd.isAgg114
  z119:=Tryd.sizeOf114
  t138:=Tryd.underlying116
  a138:=Tryd.isAgg116
  z138:=Tryd.sizeOf116
  v138:=Tryd.zeroValue116
  t139:=Tryd.underlying117
  a139:=Tryd.isAgg117
  z139:=Tryd.sizeOf117
  v139:=Tryd.zeroValue117
  t146:=Tryd.underlying119
  a146:=Tryd.isAgg119
  z146:=Tryd.sizeOf119
  v146:=Tryd.zeroValue119
  g1:=by kernel_rfl
  g3:=by kernel_rfl
  g4:=by kernel_rfl }
open Go.RowKit Go.Lib in
/-- strings.Split. (LAID: no walk: one application.) -/
theorem Tryd.strings_Split (s sep:ByteArray) (m:Int) (w:World) (hs:s.size<4294967281) (hm:w.cell? ⟨0,0,none⟩=some (.int .i64 m)) (h1:1≤sep.size) :
    Calls Tryd.prog 41 #[.string s,.string sep] w fun e w' =>
      e=.returned (.slice (some ⟨w.heap.size,0,none⟩) (Lib.countB s sep+1) (Lib.countB s sep+1))∧w'=w.alloc (.cells ((Lib.splitB sep 0 (Lib.countB s sep) s).map Value.string).toArray 9):=Any.strings_Split Tryd.lays146 (by kernel_rfl) s sep m w hs hm h1
open Go.RowKit Go.Sort in
/-- .. and plain. (LAID: no walk: one application.) -/
theorem Tryd.slices_Sort_string_none (p:Option Addr) (cap:Nat) (w:World) :
    Calls Tryd.prog 23 #[.slice p 0 cap] w fun e w'=>e=.returned (.tuple #[])∧w'=w:=Any.slices_Sort_string_none Tryd.lays190 p cap w
def Tryd.lays160s_ren:Go.Shelf.Ren:=⟨fun | 160=>43 | 232=>63 | 231=>62 | 227=>64 | 234=>66 | 233=>65 | 236=>68 | 235=>67 | 228=>81 | 271=>84 | 151=>83 | 197=>82 | 120=>93 | 152=>92 | 260=>91 | 137=>69 | 119=>98 | 224=>96 | 225=>95 | 217=>85 | 266=>94 | n=>n,fun | 9=>9 | 4=>4 | 3=>3 | 5=>5 | 117=>91 | 116=>90 | 0=>0 | 124=>94 | 21=>21 | 105=>105 | 46=>67 | 119=>114 | 139=>117 | 138=>116 | n=>n,fun | 3=>1 | 4=>2 | n=>n⟩
theorem Tryd.lays160s:Go.Proofs.Lays.n160 Tryd.prog Tryd.lays160s_ren:={
  mixed:=by kernel_rfl
  f119:=Tryd.func98.trans (congrArg some (by kernel_rfl))
  f120:=Tryd.func93.trans (congrArg some (by kernel_rfl))
  f137:=Tryd.func69.trans (congrArg some (by kernel_rfl))
  f151:=Tryd.func83.trans (congrArg some (by kernel_rfl))
  f152:=Tryd.func92.trans (congrArg some (by kernel_rfl))
  f160:=Tryd.func43.trans (congrArg some (by kernel_rfl))
  f197:=Tryd.func82.trans (congrArg some (by kernel_rfl))
  f217:=Tryd.func85.trans (congrArg some (by kernel_rfl))
  f224:=Tryd.func96.trans (congrArg some (by kernel_rfl))
  f225:=Tryd.func95.trans (congrArg some (by kernel_rfl))
  f227:=Tryd.func64.trans (congrArg some (by kernel_rfl))
  f228:=Tryd.func81.trans (congrArg some (by kernel_rfl))
  f231:=Tryd.func62.trans (congrArg some (by kernel_rfl))
  f232:=Tryd.func63.trans (congrArg some (by kernel_rfl))
  f233:=Tryd.func65.trans (congrArg some (by kernel_rfl))
  f234:=Tryd.func66.trans (congrArg some (by kernel_rfl))
  f235:=Tryd.func67.trans (congrArg some (by kernel_rfl))
  f236:=Tryd.func68.trans (congrArg some (by kernel_rfl))
  f260:=Tryd.func91.trans (congrArg some (by kernel_rfl))
  f266:=Tryd.func94.trans (congrArg some (by kernel_rfl))
  f271:=Tryd.func84.trans (congrArg some (by kernel_rfl))
  t0:=Tryd.underlying0
  a0:=Tryd.isAgg0
  z0:=Tryd.sizeOf0
  v0:=Tryd.zeroValue0
  t3:=Tryd.underlying3
  a3:=Tryd.isAgg3
  z3:=Tryd.sizeOf3
  v3:=Tryd.zeroValue3
  t4:=Tryd.underlying4
  a4:=Tryd.isAgg4
  z4:=Tryd.sizeOf4
  v4:=Tryd.zeroValue4
  t5:=Tryd.underlying5
  a5:=Tryd.isAgg5
  z5:=Tryd.sizeOf5
  v5:=Tryd.zeroValue5
  t9:=Tryd.underlying9
  a9:=Tryd.isAgg9
  z9:=Tryd.sizeOf9
  v9:=Tryd.zeroValue9
  t21:=Tryd.underlying21
  a21:=Tryd.isAgg21
  z21:=Tryd.sizeOf21
  v21:=Tryd.zeroValue21
  t46:=Tryd.underlying67
  a46:=Tryd.isAgg67
  z46:=Tryd.sizeOf67
  v46:=Tryd.zeroValue67
  t105:=Tryd.underlying105
  a105:=Tryd.isAgg105
  z105:=Tryd.sizeOf105
  v105:=Tryd.zeroValue105
  t116:=Tryd.underlying90
  a116:=Tryd.isAgg90
  z116:=Tryd.sizeOf90
  t117:=Tryd.underlying91
  a117:=Tryd.isAgg91
  z117:=Tryd.sizeOf91
  v117:=Tryd.zeroValue91
  t119:=Tryd.underlying114
  a119:=Tryd.isAgg114
  z119:=Tryd.sizeOf114
  t124:=Tryd.underlying94
  a124:=Tryd.isAgg94
  z124:=Tryd.sizeOf94
  v124:=Tryd.zeroValue94
  t138:=Tryd.underlying116
  a138:=Tryd.isAgg116
  z138:=Tryd.sizeOf116
  v138:=Tryd.zeroValue116
  t139:=Tryd.underlying117
  a139:=Tryd.isAgg117
  z139:=Tryd.sizeOf117
  v139:=Tryd.zeroValue117
  g3:=by kernel_rfl
  g4:=by kernel_rfl }
open Go.RowKit in
/-- strings.Trim at an ASCII cutset. -/
theorem Tryd.strings_Trim (s cutset:ByteArray) (w:World) (hs:s.size≤9223372036854775807) (hcs:cutset.size<4294967281) (hascii:∀ (j:Nat) b,cutset.data.toList[j]? = some b→b.toNat<128) :
    Calls Tryd.prog 43 #[.string s,.string cutset] w fun e w'=>e=.returned (.string ⟨(Lib.trimS s.data.toList cutset.data.toList).toArray⟩)∧Below w.heap.size w w':=Any.strings_Trim_laid Tryd.lays160s (by kernel_rfl) s cutset w hs hcs hascii
end Go.Proofs.YtedkdnhhohcocaaDoor.Shelf
