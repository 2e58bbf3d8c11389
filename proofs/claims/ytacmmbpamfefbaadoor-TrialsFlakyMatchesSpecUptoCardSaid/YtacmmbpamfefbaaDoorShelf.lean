/- Contracts of the shelf, laid at this program. -/
import Derived.Shelf.Strings.Trim
import Derived.Shelf.Small.Utf8
import Derived.Shelf.Small.Bits
import Derived.Shelf.Small.Strs
import Derived.Shelf.Utf8.RuneCount
import Derived.Shelf.Strconv.Itoa0
import Derived.Shelf.Strings.Search1
import Derived.Shelf.Strings.Search2
import Derived.Shelf.Strings.Search3
import Derived.Shelf.Strings.Count
import Derived.Shelf.LaysM
import Derived.Shelf.Strings.Shaped
import Derived.Shelf.Sort.Plain
import Derived.Shelf.Strings.Split
import Derived.Shelf.Strings.SplitShaped
import Derived.Shelf.Unicode.Decode
import Derived.Shelf.Strings.Runes
import Derived.Shelf.Strings.RuneCount
import Derived.Shelf.Strings.AsciiSet
import Derived.Shelf.Strings.Explode
import Derived.Shelf.Unicode.DecodeSlow
import Derived.Shelf.Unicode.DecodeAny
import Derived.Shelf.Unicode.DecodeLast
import Derived.Shelf.Slices.Equal
import Derived.Shelf.Slices.CompactS
import Derived.Shelf.Slices.Cells
import Derived.Shelf.Slices.In.SortNone
import Derived.Shelf.Slices.Empties2
import Derived.Shelf.Strings.SlTrimAscii
import Derived.Shelf.SlIter.Sorted
import Derived.WalkKit
import Derived.Test.YtacmmbpamfefbaaDoorProg
namespace Go.Proofs.YtacmmbpamfefbaaDoor.Shelf
open Go.Proofs Go.RowKit
open Go.Shelf
def Tryd.lays137_ren:Go.Shelf.Ren:=⟨fun | 137=>52 | 217=>69 | 266=>78 | n=>n,fun | 9=>9 | 5=>5 | 3=>3 | n=>n,fun | n=>n⟩
theorem Tryd.lays137:Go.Proofs.Lays.n137 Tryd.prog Tryd.lays137_ren:={
  mixed:=by kernel_rfl
  f137:=Tryd.func52.trans (congrArg some (by kernel_rfl))
  f217:=Tryd.func69.trans (congrArg some (by kernel_rfl))
  f266:=Tryd.func78.trans (congrArg some (by kernel_rfl))
  t3:=Tryd.underlying3
  a3:=Tryd.isAgg3
  z3:=Tryd.sizeOf3
  v3:=Tryd.zeroValue3
  t5:=Tryd.underlying5
  a5:=Tryd.isAgg5
  z5:=Tryd.sizeOf5
  v5:=Tryd.zeroValue5
  t9:=Tryd.underlying9
  a9:=Tryd.isAgg9
  z9:=Tryd.sizeOf9
  v9:=Tryd.zeroValue9 }
open Go.RowKit in
/-- strings.IndexByte: "IndexByte returns the index of the first instance of c in s, or -1 if c is not present in s.": IT RETURNS 'Lib.indexByte s c'; the world is as it was. (LAID: no walk: one application.) -/
theorem Tryd.strings_IndexByte (s:ByteArray) (c:Int) (w:World) :
    Calls Tryd.prog 52 #[.string s,.int .u8 c] w fun e w'=>e=.returned (.int .i64 (Lib.indexByte s.data.toList c.toNat.toUInt8))∧w'=w:=Any.strings_IndexByte Tryd.lays137 s c w
def Tryd.lays190_ren:Go.Shelf.Ren:=⟨fun | 190=>19 | 125=>33 | 258=>32 | 128=>48 | 129=>49 | 302=>39 | 303=>40 | 304=>41 | 305=>42 | 306=>43 | 307=>44 | 308=>45 | 309=>46 | 310=>47 | 333=>60 | 329=>61 | 330=>62 | 334=>63 | 335=>64 | 336=>65 | 344=>74 | n=>n,fun | 31=>26 | 9=>9 | 3=>3 | 46=>62 | 0=>0 | 51=>76 | 53=>78 | 4=>4 | 183=>68 | 182=>67 | 131=>73 | 5=>5 | 218=>89 | 222=>93 | 228=>100 | 229=>101 | n=>n,fun | n=>n⟩
theorem Tryd.lays190:Go.Proofs.Lays.n190 Tryd.prog Tryd.lays190_ren:={
  mixed:=by kernel_rfl
  f125:=Tryd.func33.trans (congrArg some (by kernel_rfl))
  f128:=Tryd.func48.trans (congrArg some (by kernel_rfl))
  f129:=Tryd.func49.trans (congrArg some (by kernel_rfl))
  f190:=Tryd.func19.trans (congrArg some (by kernel_rfl))
  f258:=Tryd.func32.trans (congrArg some (by kernel_rfl))
  f302:=Tryd.func39.trans (congrArg some (by kernel_rfl))
  f303:=Tryd.func40.trans (congrArg some (by kernel_rfl))
  f304:=Tryd.func41.trans (congrArg some (by kernel_rfl))
  f305:=Tryd.func42.trans (congrArg some (by kernel_rfl))
  f306:=Tryd.func43.trans (congrArg some (by kernel_rfl))
  f307:=Tryd.func44.trans (congrArg some (by kernel_rfl))
  f308:=Tryd.func45.trans (congrArg some (by kernel_rfl))
  f309:=Tryd.func46.trans (congrArg some (by kernel_rfl))
  f310:=Tryd.func47.trans (congrArg some (by kernel_rfl))
  f329:=Tryd.func61.trans (congrArg some (by kernel_rfl))
  f330:=Tryd.func62.trans (congrArg some (by kernel_rfl))
  f333:=Tryd.func60.trans (congrArg some (by kernel_rfl))
  f334:=Tryd.func63.trans (congrArg some (by kernel_rfl))
  f335:=Tryd.func64.trans (congrArg some (by kernel_rfl))
  f336:=Tryd.func65.trans (congrArg some (by kernel_rfl))
  f344:=Tryd.func74.trans (congrArg some (by kernel_rfl))
  t0:=Tryd.underlying0
  a0:=Tryd.isAgg0
  z0:=Tryd.sizeOf0
  v0:=Tryd.zeroValue0
  t3:=Tryd.underlying3
  a3:=Tryd.isAgg3
  z3:=Tryd.sizeOf3
  v3:=Tryd.zeroValue3
  t4:=Tryd.underlying4
  a4:=Tryd.isAgg4
  z4:=Tryd.sizeOf4
  v4:=Tryd.zeroValue4
  t5:=Tryd.underlying5
  a5:=Tryd.isAgg5
  z5:=Tryd.sizeOf5
  v5:=Tryd.zeroValue5
  t9:=Tryd.underlying9
  a9:=Tryd.isAgg9
  z9:=Tryd.sizeOf9
  v9:=Tryd.zeroValue9
  t31:=Tryd.underlying26
  a31:=Tryd.isAgg26
  z31:=Tryd.sizeOf26
  v31:=Tryd.zeroValue26
  t46:=Tryd.underlying62
  a46:=Tryd.isAgg62
  z46:=Tryd.sizeOf62
  v46:=Tryd.zeroValue62
  t51:=Tryd.underlying76
  a51:=Tryd.isAgg76
  z51:=Tryd.sizeOf76
  v51:=Tryd.zeroValue76
  t53:=Tryd.underlying78
  a53:=Tryd.isAgg78
  z53:=Tryd.sizeOf78
  v53:=Tryd.zeroValue78
  t131:=Tryd.underlying73
  a131:=Tryd.isAgg73
  z131:=Tryd.sizeOf73
  v131:=Tryd.zeroValue73
  t182:=Tryd.underlying67
  a182:=Tryd.isAgg67
  z182:=Tryd.sizeOf67
  v182:=Tryd.zeroValue67
  t183:=Tryd.underlying68
  a183:=Tryd.isAgg68
  z183:=Tryd.sizeOf68
  v183:=Tryd.zeroValue68
  t218:=Tryd.underlying89
  a218:=Tryd.isAgg89
  z218:=Tryd.sizeOf89
  v218:=Tryd.zeroValue89
  t222:=Tryd.underlying93
  a222:=Tryd.isAgg93
  z222:=Tryd.sizeOf93
  v222:=Tryd.zeroValue93
  t228:=Tryd.underlying100
  a228:=Tryd.isAgg100
  z228:=Tryd.sizeOf100
  v228:=Tryd.zeroValue100
  t229:=Tryd.underlying101
  a229:=Tryd.isAgg101
  z229:=Tryd.sizeOf101
  v229:=Tryd.zeroValue101 }
open Go.Sort Go.RowKit in
theorem Tryd.slices_Sort_string (blk off cap:Nat) (ss:List (List UInt8)) (w:World) (hH:Holds encStr w blk off ss.toArray) (hblk:blk<w.heap.size) (hsz:ss.length<4611686018427387904) :
    Calls Tryd.prog 19 #[.slice (some ⟨blk,off,none⟩) ss.length cap] w fun e w' =>
      e=.returned (.tuple #[])∧∃ n os,w'=grow (putRow encStr (Sort.ahead w n) blk off (ss.mergeSort fun x y=>decide (x≤y)).toArray) os:=Any.slices_Sort_string Tryd.lays190 blk off cap ss w hH hblk hsz
def Tryd.lays146_ren:Go.Shelf.Ren:=⟨fun | 146=>34 | 221=>50 | 268=>66 | 138=>67 | 143=>68 | 195=>75 | 197=>71 | 218=>76 | 219=>77 | 260=>79 | 217=>69 | 225=>82 | 224=>83 | 267=>84 | 266=>78 | 314=>86 | n=>n,fun | 9=>9 | 31=>26 | 3=>3 | 4=>4 | 0=>0 | 105=>97 | 21=>21 | 5=>5 | 46=>62 | 119=>106 | 139=>109 | 138=>108 | 146=>111 | 51=>76 | n=>n,fun | 1=>0 | 3=>1 | 4=>2 | n=>n⟩
theorem Tryd.lays146:Go.Proofs.Lays.n146 Tryd.prog Tryd.lays146_ren:={
  mixed:=by kernel_rfl
  f138:=Tryd.func67.trans (congrArg some (by kernel_rfl))
  f143:=Tryd.func68.trans (congrArg some (by kernel_rfl))
  f146:=Tryd.func34.trans (congrArg some (by kernel_rfl))
  f195:=Tryd.func75.trans (congrArg some (by kernel_rfl))
  f197:=Tryd.func71.trans (congrArg some (by kernel_rfl))
  f217:=Tryd.func69.trans (congrArg some (by kernel_rfl))
  f218:=Tryd.func76.trans (congrArg some (by kernel_rfl))
  f219:=Tryd.func77.trans (congrArg some (by kernel_rfl))
  f221:=Tryd.func50.trans (congrArg some (by kernel_rfl))
  f224:=Tryd.func83.trans (congrArg some (by kernel_rfl))
  f225:=Tryd.func82.trans (congrArg some (by kernel_rfl))
  f260:=Tryd.func79.trans (congrArg some (by kernel_rfl))
  f266:=Tryd.func78.trans (congrArg some (by kernel_rfl))
  f267:=Tryd.func84.trans (congrArg some (by kernel_rfl))
  f268:=Tryd.func66.trans (congrArg some (by kernel_rfl))
  f314:=Tryd.func86.trans (congrArg some (by kernel_rfl))
  t0:=Tryd.underlying0
  a0:=Tryd.isAgg0
  z0:=Tryd.sizeOf0
  v0:=Tryd.zeroValue0
  t3:=Tryd.underlying3
  a3:=Tryd.isAgg3
  z3:=Tryd.sizeOf3
  v3:=Tryd.zeroValue3
  t4:=Tryd.underlying4
  a4:=Tryd.isAgg4
  z4:=Tryd.sizeOf4
  v4:=Tryd.zeroValue4
  t5:=Tryd.underlying5
  a5:=Tryd.isAgg5
  z5:=Tryd.sizeOf5
  v5:=Tryd.zeroValue5
  t9:=Tryd.underlying9
  a9:=Tryd.isAgg9
  z9:=Tryd.sizeOf9
  v9:=Tryd.zeroValue9
  t21:=Tryd.underlying21
  a21:=Tryd.isAgg21
  z21:=Tryd.sizeOf21
  v21:=Tryd.zeroValue21
  t31:=Tryd.underlying26
  a31:=Tryd.isAgg26
  z31:=Tryd.sizeOf26
  v31:=Tryd.zeroValue26
  t46:=Tryd.underlying62
  a46:=Tryd.isAgg62
  z46:=Tryd.sizeOf62
  v46:=Tryd.zeroValue62
  t51:=Tryd.underlying76
  a51:=Tryd.isAgg76
  z51:=Tryd.sizeOf76
  v51:=Tryd.zeroValue76
  t105:=Tryd.underlying97
  a105:=Tryd.isAgg97
  z105:=Tryd.sizeOf97
  v105:=Tryd.zeroValue97
  t119:=Tryd.underlying106
  a119:=Tryd.isAgg106
  z119:=Tryd.sizeOf106
  t138:=Tryd.underlying108
  a138:=Tryd.isAgg108
  z138:=Tryd.sizeOf108
  v138:=Tryd.zeroValue108
  t139:=Tryd.underlying109
  a139:=Tryd.isAgg109
  z139:=Tryd.sizeOf109
  v139:=Tryd.zeroValue109
  t146:=Tryd.underlying111
  a146:=Tryd.isAgg111
  z146:=Tryd.sizeOf111
  v146:=Tryd.zeroValue111
  g1:=by kernel_rfl
  g3:=by kernel_rfl
  g4:=by kernel_rfl }
open Go.RowKit Go.Lib in
/-- strings.Split. (LAID: no walk: one application.) -/
theorem Tryd.strings_Split (s sep:ByteArray) (m:Int) (w:World) (hs:s.size<4294967281) (hm:w.cell? ⟨0,0,none⟩=some (.int .i64 m)) (h1:1≤sep.size) :
    Calls Tryd.prog 34 #[.string s,.string sep] w fun e w' =>
      e=.returned (.slice (some ⟨w.heap.size,0,none⟩) (Lib.countB s sep+1) (Lib.countB s sep+1))∧w'=w.alloc (.cells ((Lib.splitB sep 0 (Lib.countB s sep) s).map Value.string).toArray 9):=Any.strings_Split Tryd.lays146 (by kernel_rfl) s sep m w hs hm h1
def Tryd.lays194_ren:Go.Shelf.Ren:=⟨fun | 194=>20 | n=>n,fun | 31=>26 | 9=>9 | 3=>3 | 4=>4 | 0=>0 | n=>n,fun | n=>n⟩
theorem Tryd.lays194:Go.Proofs.Lays.n194 Tryd.prog Tryd.lays194_ren:={
  mixed:=by kernel_rfl
  f194:=Tryd.func20.trans (congrArg some (by kernel_rfl))
  t0:=Tryd.underlying0
  a0:=Tryd.isAgg0
  z0:=Tryd.sizeOf0
  v0:=Tryd.zeroValue0
  t3:=Tryd.underlying3
  a3:=Tryd.isAgg3
  z3:=Tryd.sizeOf3
  v3:=Tryd.zeroValue3
  t4:=Tryd.underlying4
  a4:=Tryd.isAgg4
  z4:=Tryd.sizeOf4
  v4:=Tryd.zeroValue4
  t9:=Tryd.underlying9
  a9:=Tryd.isAgg9
  z9:=Tryd.sizeOf9
  v9:=Tryd.zeroValue9
  t31:=Tryd.underlying26
  a31:=Tryd.isAgg26
  z31:=Tryd.sizeOf26
  v31:=Tryd.zeroValue26 }
open Go.RowKit Go.Lib Go.Sort in
/-- slices.Compact at []string: "Compact replaces consecutive runs of equal elements with a single copy. This is like the uniq command found on Unix. Compact modifies the contents of the slice s and returns the modified slice, which may have a smaller length. Compact zeroes the elements between the new length and the original length. The result preserves the nilness of s.": IT RETURNS THE SLICE CUT TO 'Lib.compact zs'; ITS CELLS HOLD 'Lib.compact zs', THEN ZERO VALUES up to the old length; all else is as it was, but for the count of draws. IN THE WORDS OF slices.Sort's CONTRACT ('Holds', 'putRow'): so the everyday 'slices.Sort(xs); xs = slices.Compact(xs)' goes from the one contract to the other. It asks 'zs.length ≤ cap' (every slice's: the reslicing 's[:k]' looks at it). Length 0, nil: '.._empty'. (LAID: no walk: one application.) -/
theorem Tryd.slices_Compact_string (blk off cap:Nat) (zs:List (List UInt8)) (w:World) (hH:Holds encStr w blk off zs.toArray) (hsz:zs.length≤9223372036854775807) (hcap:zs.length≤cap) :
    Calls Tryd.prog 20 #[.slice (some ⟨blk,off,none⟩) zs.length cap] w fun e w'=>e=.returned (.slice (some ⟨blk,off,none⟩) (Lib.compact zs).length cap)∧∃ q,w'=putRow encStr (Sort.ahead w q) blk off (Lib.compact zs++List.replicate (zs.length - (Lib.compact zs).length) []).toArray:=Any.slices_Compact_string Tryd.lays194 blk off cap zs w hH hsz hcap
open Go.RowKit Go.Lib Go.Sort in
/-- The same at a slice of length 0, a nil one too: it comes back as it is. (LAID: no walk: one application.) -/
theorem Tryd.slices_Compact_string_empty (a:Option Addr) (cap:Nat) (w:World) :
    Calls Tryd.prog 20 #[.slice a 0 cap] w fun e w'=>e=.returned (.slice a 0 cap)∧w'=w:=Any.slices_Compact_string_empty Tryd.lays194 a cap w
open Go.RowKit Go.Sort in
/-- .. and plain. (LAID: no walk: one application.) -/
theorem Tryd.slices_Sort_string_none (p:Option Addr) (cap:Nat) (w:World) :
    Calls Tryd.prog 19 #[.slice p 0 cap] w fun e w'=>e=.returned (.tuple #[])∧w'=w:=Any.slices_Sort_string_none Tryd.lays190 p cap w
def Tryd.lays160s_ren:Go.Shelf.Ren:=⟨fun | 160=>37 | 232=>54 | 231=>53 | 227=>55 | 234=>57 | 233=>56 | 236=>59 | 235=>58 | 228=>70 | 271=>73 | 151=>72 | 197=>71 | 120=>81 | 152=>80 | 260=>79 | 137=>52 | 119=>85 | 224=>83 | 225=>82 | 217=>69 | 266=>78 | n=>n,fun | 9=>9 | 4=>4 | 3=>3 | 5=>5 | 117=>85 | 116=>84 | 0=>0 | 124=>88 | 21=>21 | 105=>97 | 46=>62 | 119=>106 | 139=>109 | 138=>108 | n=>n,fun | 3=>1 | 4=>2 | n=>n⟩
theorem Tryd.lays160s:Go.Proofs.Lays.n160 Tryd.prog Tryd.lays160s_ren:={
  mixed:=by kernel_rfl
  f119:=Tryd.func85.trans (congrArg some (by kernel_rfl))
  f120:=Tryd.func81.trans (congrArg some (by kernel_rfl))
  f137:=Tryd.func52.trans (congrArg some (by kernel_rfl))
  f151:=Tryd.func72.trans (congrArg some (by kernel_rfl))
  f152:=Tryd.func80.trans (congrArg some (by kernel_rfl))
  f160:=Tryd.func37.trans (congrArg some (by kernel_rfl))
  f197:=Tryd.func71.trans (congrArg some (by kernel_rfl))
  f217:=Tryd.func69.trans (congrArg some (by kernel_rfl))
  f224:=Tryd.func83.trans (congrArg some (by kernel_rfl))
  f225:=Tryd.func82.trans (congrArg some (by kernel_rfl))
  f227:=Tryd.func55.trans (congrArg some (by kernel_rfl))
  f228:=Tryd.func70.trans (congrArg some (by kernel_rfl))
  f231:=Tryd.func53.trans (congrArg some (by kernel_rfl))
  f232:=Tryd.func54.trans (congrArg some (by kernel_rfl))
  f233:=Tryd.func56.trans (congrArg some (by kernel_rfl))
  f234:=Tryd.func57.trans (congrArg some (by kernel_rfl))
  f235:=Tryd.func58.trans (congrArg some (by kernel_rfl))
  f236:=Tryd.func59.trans (congrArg some (by kernel_rfl))
  f260:=Tryd.func79.trans (congrArg some (by kernel_rfl))
  f266:=Tryd.func78.trans (congrArg some (by kernel_rfl))
  f271:=Tryd.func73.trans (congrArg some (by kernel_rfl))
  t0:=Tryd.underlying0
  a0:=Tryd.isAgg0
  z0:=Tryd.sizeOf0
  v0:=Tryd.zeroValue0
  t3:=Tryd.underlying3
  a3:=Tryd.isAgg3
  z3:=Tryd.sizeOf3
  v3:=Tryd.zeroValue3
  t4:=Tryd.underlying4
  a4:=Tryd.isAgg4
  z4:=Tryd.sizeOf4
  v4:=Tryd.zeroValue4
  t5:=Tryd.underlying5
  a5:=Tryd.isAgg5
  z5:=Tryd.sizeOf5
  v5:=Tryd.zeroValue5
  t9:=Tryd.underlying9
  a9:=Tryd.isAgg9
  z9:=Tryd.sizeOf9
  v9:=Tryd.zeroValue9
  t21:=Tryd.underlying21
  a21:=Tryd.isAgg21
  z21:=Tryd.sizeOf21
  v21:=Tryd.zeroValue21
  t46:=Tryd.underlying62
  a46:=Tryd.isAgg62
  z46:=Tryd.sizeOf62
  v46:=Tryd.zeroValue62
  t105:=Tryd.underlying97
  a105:=Tryd.isAgg97
  z105:=Tryd.sizeOf97
  v105:=Tryd.zeroValue97
  t116:=Tryd.underlying84
  a116:=Tryd.isAgg84
  z116:=Tryd.sizeOf84
  t117:=Tryd.underlying85
  a117:=Tryd.isAgg85
  z117:=Tryd.sizeOf85
  v117:=Tryd.zeroValue85
  t119:=Tryd.underlying106
  a119:=Tryd.isAgg106
  z119:=Tryd.sizeOf106
  t124:=Tryd.underlying88
  a124:=Tryd.isAgg88
  z124:=Tryd.sizeOf88
  v124:=Tryd.zeroValue88
  t138:=Tryd.underlying108
  a138:=Tryd.isAgg108
  z138:=Tryd.sizeOf108
  v138:=Tryd.zeroValue108
  t139:=Tryd.underlying109
  a139:=Tryd.isAgg109
  z139:=Tryd.sizeOf109
  v139:=Tryd.zeroValue109
  g3:=by kernel_rfl
  g4:=by kernel_rfl }
open Go.RowKit in
/-- strings.Trim at an ASCII cutset. -/
theorem Tryd.strings_Trim (s cutset:ByteArray) (w:World) (hs:s.size≤9223372036854775807) (hcs:cutset.size<4294967281) (hascii:∀ (j:Nat) b,cutset.data.toList[j]? = some b→b.toNat<128) :
    Calls Tryd.prog 37 #[.string s,.string cutset] w fun e w'=>e=.returned (.string ⟨(Lib.trimS s.data.toList cutset.data.toList).toArray⟩)∧Below w.heap.size w w':=Any.strings_Trim_laid Tryd.lays160s (by kernel_rfl) s cutset w hs hcs hascii
def Tryd.keysLay_ren:Go.Shelf.Ren:=⟨fun | 7=>16 | 10=>29 | n=>n,fun | 23=>39 | 26=>9 | 3=>4 | 28=>49 | 0=>0 | 27=>48 | 33=>54 | 4=>4 | n=>n,fun | n=>n⟩
theorem Tryd.keysLay:Go.Proofs.SlLaysZ.n7 Tryd.prog Tryd.keysLay_ren:={
  mixed:=by kernel_rfl
  f7:=⟨Tryd.f16.name,by decide,Tryd.func16.trans (congrArg some (by kernel_rfl))⟩
  f10:=⟨Tryd.f29.name,by decide,Tryd.func29.trans (congrArg some (by kernel_rfl))⟩
  t0:=Tryd.underlying0
  a0:=Tryd.isAgg0
  z0:=Tryd.sizeOf0
  v0:=Tryd.zeroValue0
  t4:=Tryd.underlying4
  a4:=Tryd.isAgg4
  z4:=Tryd.sizeOf4
  v4:=Tryd.zeroValue4
  t23:=Tryd.underlying39
  a23:=Tryd.isAgg39
  z23:=Tryd.sizeOf39
  v23:=Tryd.zeroValue39
  t26:=Tryd.underlying9
  a26:=Tryd.isAgg9
  z26:=Tryd.sizeOf9
  v26:=Tryd.zeroValue9
  t27:=Tryd.underlying48
  a27:=Tryd.isAgg48
  z27:=Tryd.sizeOf48
  v27:=Tryd.zeroValue48
  t28:=Tryd.underlying49
  a28:=Tryd.isAgg49
  z28:=Tryd.sizeOf49
  v28:=Tryd.zeroValue49
  t33:=Tryd.underlying54
  a33:=Tryd.isAgg54
  z33:=Tryd.sizeOf54
  v33:=Tryd.zeroValue54 }
def Tryd.sortedLay_ren:Go.Shelf.Ren:=⟨fun | 6=>15 | 8=>28 | 9=>19 | 11=>38 | 13=>33 | 12=>32 | 23=>48 | 24=>49 | 14=>39 | 15=>40 | 16=>41 | 17=>42 | 18=>43 | 19=>44 | 20=>45 | 21=>46 | 22=>47 | 25=>60 | 26=>61 | 27=>62 | 28=>63 | 29=>64 | 30=>65 | 31=>74 | n=>n,fun | 26=>9 | 28=>49 | 24=>26 | 0=>0 | 3=>3 | 37=>62 | 48=>76 | 50=>78 | 4=>4 | 40=>68 | 39=>67 | 45=>73 | 5=>5 | 9=>9 | 51=>89 | 55=>93 | 57=>100 | 58=>101 | 33=>54 | n=>n,fun | n=>n⟩
theorem Tryd.sortedLay:Go.Proofs.SlLaysZ.n6 Tryd.prog Tryd.sortedLay_ren:={
  mixed:=by kernel_rfl
  f6:=⟨Tryd.f15.name,by decide,Tryd.func15.trans (congrArg some (by kernel_rfl))⟩
  f8:=⟨Tryd.f28.name,by decide,Tryd.func28.trans (congrArg some (by kernel_rfl))⟩
  f11:=⟨Tryd.f38.name,by decide,Tryd.func38.trans (congrArg some (by kernel_rfl))⟩
  t0:=Tryd.underlying0
  a0:=Tryd.isAgg0
  z0:=Tryd.sizeOf0
  v0:=Tryd.zeroValue0
  t24:=Tryd.underlying26
  a24:=Tryd.isAgg26
  z24:=Tryd.sizeOf26
  v24:=Tryd.zeroValue26
  t26:=Tryd.underlying9
  a26:=Tryd.isAgg9
  z26:=Tryd.sizeOf9
  v26:=Tryd.zeroValue9
  t28:=Tryd.underlying49
  a28:=Tryd.isAgg49
  z28:=Tryd.sizeOf49
  v28:=Tryd.zeroValue49
  i26:=by kernel_rfl }
open Go.RowKit Go.Sort Go.Maps in
/-- slices.Sort at any fence that asks nothing. -/
theorem Tryd.sorts (m:Nat):AnyZ.SortsIn Tryd.prog Tryd.sortedLay_ren Fence.wide m :=
  ⟨fun blk off cap ss W hH hblk hsz=>callsIn_wide.2 (Tryd.slices_Sort_string blk off cap ss W hH hblk hsz),fun p cap W=>callsIn_wide.2 (Tryd.slices_Sort_string_none p cap W)⟩
open Go.RowKit Go.Sort Go.Maps in
/-- maps.Keys: a function value over one new block, which holds the map. -/
theorem Tryd.maps_Keys (mb:Option Nat) (W:World):Calls Tryd.prog 16 #[.map mb] W fun e w'=>e=.returned (.func (.func 29) #[] #[.pointer (some ⟨W.heap.size,0,none⟩)])∧w'=W.alloc (.cells #[.map mb] 39) :=
  callsIn_wide.1 (AnyZ.keys_in Tryd.keysLay Fence.wide 5 trivial rfl mb W)
open Go.RowKit Go.Sort Go.Maps in
/-- slices.Sorted of what maps.Keys handed back. -/
theorem Tryd.slices_Sorted_keys {R:Value→Option (DataW Unit × List MemPlace)} (Bm b nn:Nat) (D0:DataW Unit) (w:World) (hBm:Bm<w.heap.size) (hm:w.cell? ⟨Bm,0,none⟩=some (.map (some b))) (hown:w.ownsMap Tryd.prog 9 R b nn D0) (hmax:Maps.size D0≤maxLen) (hbytes:Maps.size D0*16≤140737488355328) :
    Calls Tryd.prog 15 #[.func (.func 29) #[] #[.pointer (some ⟨Bm,0,none⟩)]] w fun e w'=>∃ (v:Value) (ss:List (List UInt8)),e=.returned v∧ss.Perm (strKeys D0) ∧
      w'.ownsRow w.heap.size 9 1 v ss.length ((ss.mergeSort (fun x y=>decide (x≤y))).map encStr)∧(v=.slice none 0 0↔ss=[])∧Below w.heap.size w w':=by
  have hseq:SeqGives Fence.wide 2 Tryd.prog 29 #[.pointer (some ⟨Bm,0,none⟩)] encStr (fun ss=>ss.Perm (strKeys D0)) (Maps.size D0) w :=
    AnyZ.keys_gives (ρ:=Tryd.keysLay_ren) { Tryd.keysLay with } Fence.wide _ trivial rfl (by omega) Bm b nn D0 w hBm hm hown
  exact callsIn_wide.1 (AnyZ.sorted_in Tryd.sortedLay Fence.wide 5 trivial trivial trivial trivial rfl (by omega) (Tryd.sorts _) (enters_of Tryd.func19 (by kernel_rfl) rfl) 29 #[.pointer (some ⟨Bm,0,none⟩)] trivial (enters_of Tryd.func29 (by kernel_rfl) rfl) _ _ hmax hbytes w hseq)
end Go.Proofs.YtacmmbpamfefbaaDoor.Shelf
