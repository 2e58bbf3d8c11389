/- Contracts of the shelf, laid at this program. -/
import Derived.Shelf.Strings.Trim
import Derived.Shelf.Small.Utf8
import Derived.Shelf.Small.Bits
import Derived.Shelf.Small.Strs
import Derived.Shelf.Small.Wraps
import Derived.Shelf.Utf8.RuneCount
import Derived.Shelf.Strconv.Itoa0
import Derived.Shelf.Strings.Search1
import Derived.Shelf.Strings.Search2
import Derived.Shelf.Strings.Search3
import Derived.Shelf.Strings.Count
import Derived.Shelf.LaysM
import Derived.Shelf.Strings.Shaped
import Derived.Shelf.Sort.Plain
import Derived.Shelf.Strings.Split
import Derived.Shelf.Strings.SplitShaped
import Derived.Shelf.Unicode.Decode
import Derived.Shelf.Strings.Runes
import Derived.Shelf.Strings.RuneCount
import Derived.Shelf.Strings.AsciiSet
import Derived.Shelf.Strings.Explode
import Derived.Shelf.Unicode.DecodeSlow
import Derived.Shelf.Unicode.DecodeAny
import Derived.Shelf.Unicode.DecodeLast
import Derived.Shelf.Slices.Turned
import Derived.Shelf.Slices.SearchI
import Derived.Shelf.Slices.In.SortNone
import Derived.Shelf.Strings.SlTrimAscii
import Derived.Test.YtdmdimhbcdocdaaDoorProg
namespace Go.Proofs.YtdmdimhbcdocdaaDoor.Shelf
open Go.Proofs Go.RowKit
open Go.Shelf
def Tryd.lays137_ren:Go.Shelf.Ren:=⟨fun | 137=>59 | 217=>69 | 266=>76 | n=>n,fun | 9=>9 | 5=>5 | 3=>3 | n=>n,fun | n=>n⟩
theorem Tryd.lays137:Go.Proofs.Lays.n137 Tryd.prog Tryd.lays137_ren:={
  mixed:=by kernel_rfl
  f137:=Tryd.func59.trans (congrArg some (by kernel_rfl))
  f217:=Tryd.func69.trans (congrArg some (by kernel_rfl))
  f266:=Tryd.func76.trans (congrArg some (by kernel_rfl))
  t3:=Tryd.underlying3
  a3:=Tryd.isAgg3
  z3:=Tryd.sizeOf3
  v3:=Tryd.zeroValue3
  t5:=Tryd.underlying5
  a5:=Tryd.isAgg5
  z5:=Tryd.sizeOf5
  v5:=Tryd.zeroValue5
  t9:=Tryd.underlying9
  a9:=Tryd.isAgg9
  z9:=Tryd.sizeOf9
  v9:=Tryd.zeroValue9 }
open Go.RowKit in
/-- strings.IndexByte: "IndexByte returns the index of the first instance of c in s, or -1 if c is not present in s.": IT RETURNS 'Lib.indexByte s c'; the world is as it was. (LAID: no walk: one application.) -/
theorem Tryd.strings_IndexByte (s:ByteArray) (c:Int) (w:World) :
    Calls Tryd.prog 59 #[.string s,.int .u8 c] w fun e w'=>e=.returned (.int .i64 (Lib.indexByte s.data.toList c.toNat.toUInt8))∧w'=w:=Any.strings_IndexByte Tryd.lays137 s c w
def Tryd.lays190_ren:Go.Shelf.Ren:=⟨fun | 190=>16 | 125=>23 | 258=>22 | 128=>38 | 129=>39 | 302=>29 | 303=>30 | 304=>31 | 305=>32 | 306=>33 | 307=>34 | 308=>35 | 309=>36 | 310=>37 | 333=>50 | 329=>51 | 330=>52 | 334=>53 | 335=>54 | 336=>55 | 344=>65 | n=>n,fun | 31=>46 | 9=>9 | 3=>3 | 46=>59 | 0=>0 | 51=>73 | 53=>75 | 4=>4 | 183=>66 | 182=>65 | 131=>53 | 5=>5 | 218=>85 | 222=>89 | 228=>97 | 229=>32 | n=>n,fun | n=>n⟩
theorem Tryd.lays190:Go.Proofs.Lays.n190 Tryd.prog Tryd.lays190_ren:={
  mixed:=by kernel_rfl
  f125:=Tryd.func23.trans (congrArg some (by kernel_rfl))
  f128:=Tryd.func38.trans (congrArg some (by kernel_rfl))
  f129:=Tryd.func39.trans (congrArg some (by kernel_rfl))
  f190:=Tryd.func16.trans (congrArg some (by kernel_rfl))
  f258:=Tryd.func22.trans (congrArg some (by kernel_rfl))
  f302:=Tryd.func29.trans (congrArg some (by kernel_rfl))
  f303:=Tryd.func30.trans (congrArg some (by kernel_rfl))
  f304:=Tryd.func31.trans (congrArg some (by kernel_rfl))
  f305:=Tryd.func32.trans (congrArg some (by kernel_rfl))
  f306:=Tryd.func33.trans (congrArg some (by kernel_rfl))
  f307:=Tryd.func34.trans (congrArg some (by kernel_rfl))
  f308:=Tryd.func35.trans (congrArg some (by kernel_rfl))
  f309:=Tryd.func36.trans (congrArg some (by kernel_rfl))
  f310:=Tryd.func37.trans (congrArg some (by kernel_rfl))
  f329:=Tryd.func51.trans (congrArg some (by kernel_rfl))
  f330:=Tryd.func52.trans (congrArg some (by kernel_rfl))
  f333:=Tryd.func50.trans (congrArg some (by kernel_rfl))
  f334:=Tryd.func53.trans (congrArg some (by kernel_rfl))
  f335:=Tryd.func54.trans (congrArg some (by kernel_rfl))
  f336:=Tryd.func55.trans (congrArg some (by kernel_rfl))
  f344:=Tryd.func65.trans (congrArg some (by kernel_rfl))
  t0:=Tryd.underlying0
  a0:=Tryd.isAgg0
  z0:=Tryd.sizeOf0
  v0:=Tryd.zeroValue0
  t3:=Tryd.underlying3
  a3:=Tryd.isAgg3
  z3:=Tryd.sizeOf3
  v3:=Tryd.zeroValue3
  t4:=Tryd.underlying4
  a4:=Tryd.isAgg4
  z4:=Tryd.sizeOf4
  v4:=Tryd.zeroValue4
  t5:=Tryd.underlying5
  a5:=Tryd.isAgg5
  z5:=Tryd.sizeOf5
  v5:=Tryd.zeroValue5
  t9:=Tryd.underlying9
  a9:=Tryd.isAgg9
  z9:=Tryd.sizeOf9
  v9:=Tryd.zeroValue9
  t31:=Tryd.underlying46
  a31:=Tryd.isAgg46
  z31:=Tryd.sizeOf46
  v31:=Tryd.zeroValue46
  t46:=Tryd.underlying59
  a46:=Tryd.isAgg59
  z46:=Tryd.sizeOf59
  v46:=Tryd.zeroValue59
  t51:=Tryd.underlying73
  a51:=Tryd.isAgg73
  z51:=Tryd.sizeOf73
  v51:=Tryd.zeroValue73
  t53:=Tryd.underlying75
  a53:=Tryd.isAgg75
  z53:=Tryd.sizeOf75
  v53:=Tryd.zeroValue75
  t131:=Tryd.underlying53
  a131:=Tryd.isAgg53
  z131:=Tryd.sizeOf53
  v131:=Tryd.zeroValue53
  t182:=Tryd.underlying65
  a182:=Tryd.isAgg65
  z182:=Tryd.sizeOf65
  v182:=Tryd.zeroValue65
  t183:=Tryd.underlying66
  a183:=Tryd.isAgg66
  z183:=Tryd.sizeOf66
  v183:=Tryd.zeroValue66
  t218:=Tryd.underlying85
  a218:=Tryd.isAgg85
  z218:=Tryd.sizeOf85
  v218:=Tryd.zeroValue85
  t222:=Tryd.underlying89
  a222:=Tryd.isAgg89
  z222:=Tryd.sizeOf89
  v222:=Tryd.zeroValue89
  t228:=Tryd.underlying97
  a228:=Tryd.isAgg97
  z228:=Tryd.sizeOf97
  v228:=Tryd.zeroValue97
  t229:=Tryd.underlying32
  a229:=Tryd.isAgg32
  z229:=Tryd.sizeOf32
  v229:=Tryd.zeroValue32 }
open Go.Sort Go.RowKit in
theorem Tryd.slices_Sort_string (blk off cap:Nat) (ss:List (List UInt8)) (w:World) (hH:Holds encStr w blk off ss.toArray) (hblk:blk<w.heap.size) (hsz:ss.length<4611686018427387904) :
    Calls Tryd.prog 16 #[.slice (some ⟨blk,off,none⟩) ss.length cap] w fun e w' =>
      e=.returned (.tuple #[])∧∃ n os,w'=grow (putRow encStr (Sort.ahead w n) blk off (ss.mergeSort fun x y=>decide (x≤y)).toArray) os:=Any.slices_Sort_string Tryd.lays190 blk off cap ss w hH hblk hsz
def Tryd.lays146_ren:Go.Shelf.Ren:=⟨fun | 146=>24 | 221=>40 | 268=>56 | 138=>57 | 143=>58 | 195=>66 | 197=>61 | 218=>67 | 219=>68 | 260=>70 | 217=>69 | 225=>73 | 224=>74 | 267=>75 | 266=>76 | 314=>78 | n=>n,fun | 9=>9 | 31=>46 | 3=>3 | 4=>4 | 0=>0 | 105=>94 | 21=>21 | 5=>5 | 46=>59 | 119=>102 | 139=>105 | 138=>104 | 146=>107 | 51=>73 | n=>n,fun | 1=>0 | 3=>1 | 4=>2 | n=>n⟩
theorem Tryd.lays146:Go.Proofs.Lays.n146 Tryd.prog Tryd.lays146_ren:={
  mixed:=by kernel_rfl
  f138:=Tryd.func57.trans (congrArg some (by kernel_rfl))
  f143:=Tryd.func58.trans (congrArg some (by kernel_rfl))
  f146:=Tryd.func24.trans (congrArg some (by kernel_rfl))
  f195:=Tryd.func66.trans (congrArg some (by kernel_rfl))
  f197:=Tryd.func61.trans (congrArg some (by kernel_rfl))
  f217:=Tryd.func69.trans (congrArg some (by kernel_rfl))
  f218:=Tryd.func67.trans (congrArg some (by kernel_rfl))
  f219:=Tryd.func68.trans (congrArg some (by kernel_rfl))
  f221:=Tryd.func40.trans (congrArg some (by kernel_rfl))
  f224:=Tryd.func74.trans (congrArg some (by kernel_rfl))
  f225:=Tryd.func73.trans (congrArg some (by kernel_rfl))
  f260:=Tryd.func70.trans (congrArg some (by kernel_rfl))
  f266:=Tryd.func76.trans (congrArg some (by kernel_rfl))
  f267:=Tryd.func75.trans (congrArg some (by kernel_rfl))
  f268:=Tryd.func56.trans (congrArg some (by kernel_rfl))
  f314:=Tryd.func78.trans (congrArg some (by kernel_rfl))
  t0:=Tryd.underlying0
  a0:=Tryd.isAgg0
  z0:=Tryd.sizeOf0
  v0:=Tryd.zeroValue0
  t3:=Tryd.underlying3
  a3:=Tryd.isAgg3
  z3:=Tryd.sizeOf3
  v3:=Tryd.zeroValue3
  t4:=Tryd.underlying4
  a4:=Tryd.isAgg4
  z4:=Tryd.sizeOf4
  v4:=Tryd.zeroValue4
  t5:=Tryd.underlying5
  a5:=Tryd.isAgg5
  z5:=Tryd.sizeOf5
  v5:=Tryd.zeroValue5
  t9:=Tryd.underlying9
  a9:=Tryd.isAgg9
  z9:=Tryd.sizeOf9
  v9:=Tryd.zeroValue9
  t21:=Tryd.underlying21
  a21:=Tryd.isAgg21
  z21:=Tryd.sizeOf21
  v21:=Tryd.zeroValue21
  t31:=Tryd.underlying46
  a31:=Tryd.isAgg46
  z31:=Tryd.sizeOf46
  v31:=Tryd.zeroValue46
  t46:=Tryd.underlying59
  a46:=Tryd.isAgg59
  z46:=Tryd.sizeOf59
  v46:=Tryd.zeroValue59
  t51:=Tryd.underlying73
  a51:=Tryd.isAgg73
  z51:=Tryd.sizeOf73
  v51:=Tryd.zeroValue73
  t105:=Tryd.underlying94
  a105:=Tryd.isAgg94
  z105:=Tryd.sizeOf94
  v105:=Tryd.zeroValue94
  t119:=Tryd.underlying102
  a119:=Tryd.isAgg102
  z119:=Tryd.sizeOf102
  t138:=Tryd.underlying104
  a138:=Tryd.isAgg104
  z138:=Tryd.sizeOf104
  v138:=Tryd.zeroValue104
  t139:=Tryd.underlying105
  a139:=Tryd.isAgg105
  z139:=Tryd.sizeOf105
  v139:=Tryd.zeroValue105
  t146:=Tryd.underlying107
  a146:=Tryd.isAgg107
  z146:=Tryd.sizeOf107
  v146:=Tryd.zeroValue107
  g1:=by kernel_rfl
  g3:=by kernel_rfl
  g4:=by kernel_rfl }
open Go.RowKit Go.Lib in
/-- strings.Split. (LAID: no walk: one application.) -/
theorem Tryd.strings_Split (s sep:ByteArray) (m:Int) (w:World) (hs:s.size<4294967281) (hm:w.cell? ⟨0,0,none⟩=some (.int .i64 m)) (h1:1≤sep.size) :
    Calls Tryd.prog 24 #[.string s,.string sep] w fun e w' =>
      e=.returned (.slice (some ⟨w.heap.size,0,none⟩) (Lib.countB s sep+1) (Lib.countB s sep+1))∧w'=w.alloc (.cells ((Lib.splitB sep 0 (Lib.countB s sep) s).map Value.string).toArray 9):=Any.strings_Split Tryd.lays146 (by kernel_rfl) s sep m w hs hm h1
open Go.RowKit Go.Sort in
/-- .. and plain. (LAID: no walk: one application.) -/
theorem Tryd.slices_Sort_string_none (p:Option Addr) (cap:Nat) (w:World) :
    Calls Tryd.prog 16 #[.slice p 0 cap] w fun e w'=>e=.returned (.tuple #[])∧w'=w:=Any.slices_Sort_string_none Tryd.lays190 p cap w
def Tryd.lays160s_ren:Go.Shelf.Ren:=⟨fun | 160=>26 | 232=>43 | 231=>42 | 227=>44 | 234=>46 | 233=>45 | 236=>48 | 235=>47 | 228=>60 | 271=>63 | 151=>62 | 197=>61 | 120=>72 | 152=>71 | 260=>70 | 137=>59 | 119=>77 | 224=>74 | 225=>73 | 217=>69 | 266=>76 | n=>n,fun | 9=>9 | 4=>4 | 3=>3 | 5=>5 | 117=>81 | 116=>80 | 0=>0 | 124=>84 | 21=>21 | 105=>94 | 46=>59 | 119=>102 | 139=>105 | 138=>104 | n=>n,fun | 3=>1 | 4=>2 | n=>n⟩
theorem Tryd.lays160s:Go.Proofs.Lays.n160 Tryd.prog Tryd.lays160s_ren:={
  mixed:=by kernel_rfl
  f119:=Tryd.func77.trans (congrArg some (by kernel_rfl))
  f120:=Tryd.func72.trans (congrArg some (by kernel_rfl))
  f137:=Tryd.func59.trans (congrArg some (by kernel_rfl))
  f151:=Tryd.func62.trans (congrArg some (by kernel_rfl))
  f152:=Tryd.func71.trans (congrArg some (by kernel_rfl))
  f160:=Tryd.func26.trans (congrArg some (by kernel_rfl))
  f197:=Tryd.func61.trans (congrArg some (by kernel_rfl))
  f217:=Tryd.func69.trans (congrArg some (by kernel_rfl))
  f224:=Tryd.func74.trans (congrArg some (by kernel_rfl))
  f225:=Tryd.func73.trans (congrArg some (by kernel_rfl))
  f227:=Tryd.func44.trans (congrArg some (by kernel_rfl))
  f228:=Tryd.func60.trans (congrArg some (by kernel_rfl))
  f231:=Tryd.func42.trans (congrArg some (by kernel_rfl))
  f232:=Tryd.func43.trans (congrArg some (by kernel_rfl))
  f233:=Tryd.func45.trans (congrArg some (by kernel_rfl))
  f234:=Tryd.func46.trans (congrArg some (by kernel_rfl))
  f235:=Tryd.func47.trans (congrArg some (by kernel_rfl))
  f236:=Tryd.func48.trans (congrArg some (by kernel_rfl))
  f260:=Tryd.func70.trans (congrArg some (by kernel_rfl))
  f266:=Tryd.func76.trans (congrArg some (by kernel_rfl))
  f271:=Tryd.func63.trans (congrArg some (by kernel_rfl))
  t0:=Tryd.underlying0
  a0:=Tryd.isAgg0
  z0:=Tryd.sizeOf0
  v0:=Tryd.zeroValue0
  t3:=Tryd.underlying3
  a3:=Tryd.isAgg3
  z3:=Tryd.sizeOf3
  v3:=Tryd.zeroValue3
  t4:=Tryd.underlying4
  a4:=Tryd.isAgg4
  z4:=Tryd.sizeOf4
  v4:=Tryd.zeroValue4
  t5:=Tryd.underlying5
  a5:=Tryd.isAgg5
  z5:=Tryd.sizeOf5
  v5:=Tryd.zeroValue5
  t9:=Tryd.underlying9
  a9:=Tryd.isAgg9
  z9:=Tryd.sizeOf9
  v9:=Tryd.zeroValue9
  t21:=Tryd.underlying21
  a21:=Tryd.isAgg21
  z21:=Tryd.sizeOf21
  v21:=Tryd.zeroValue21
  t46:=Tryd.underlying59
  a46:=Tryd.isAgg59
  z46:=Tryd.sizeOf59
  v46:=Tryd.zeroValue59
  t105:=Tryd.underlying94
  a105:=Tryd.isAgg94
  z105:=Tryd.sizeOf94
  v105:=Tryd.zeroValue94
  t116:=Tryd.underlying80
  a116:=Tryd.isAgg80
  z116:=Tryd.sizeOf80
  t117:=Tryd.underlying81
  a117:=Tryd.isAgg81
  z117:=Tryd.sizeOf81
  v117:=Tryd.zeroValue81
  t119:=Tryd.underlying102
  a119:=Tryd.isAgg102
  z119:=Tryd.sizeOf102
  t124:=Tryd.underlying84
  a124:=Tryd.isAgg84
  z124:=Tryd.sizeOf84
  v124:=Tryd.zeroValue84
  t138:=Tryd.underlying104
  a138:=Tryd.isAgg104
  z138:=Tryd.sizeOf104
  v138:=Tryd.zeroValue104
  t139:=Tryd.underlying105
  a139:=Tryd.isAgg105
  z139:=Tryd.sizeOf105
  v139:=Tryd.zeroValue105
  g3:=by kernel_rfl
  g4:=by kernel_rfl }
open Go.RowKit in
/-- strings.Trim at an ASCII cutset. -/
theorem Tryd.strings_Trim (s cutset:ByteArray) (w:World) (hs:s.size≤9223372036854775807) (hcs:cutset.size<4294967281) (hascii:∀ (j:Nat) b,cutset.data.toList[j]? = some b→b.toNat<128) :
    Calls Tryd.prog 26 #[.string s,.string cutset] w fun e w'=>e=.returned (.string ⟨(Lib.trimS s.data.toList cutset.data.toList).toArray⟩)∧Below w.heap.size w w':=Any.strings_Trim_laid Tryd.lays160s (by kernel_rfl) s cutset w hs hcs hascii
end Go.Proofs.YtdmdimhbcdocdaaDoor.Shelf
