/- Contracts of the shelf, laid at this program. -/
import Derived.Shelf.Strings.Trim
import Derived.Shelf.Small.Utf8
import Derived.Shelf.Small.Bits
import Derived.Shelf.Small.Strs
import Derived.Shelf.Utf8.RuneCount
import Derived.Shelf.Strconv.Itoa0
import Derived.Shelf.Strings.Search1
import Derived.Shelf.Strings.Search2
import Derived.Shelf.Strings.Search3
import Derived.Shelf.Strings.Count
import Derived.Shelf.LaysM
import Derived.Shelf.Strings.Shaped
import Derived.Shelf.Sort.Plain
import Derived.Shelf.Strings.Split
import Derived.Shelf.Strings.SplitShaped
import Derived.Shelf.Unicode.Decode
import Derived.Shelf.Strings.Runes
import Derived.Shelf.Strings.RuneCount
import Derived.Shelf.Strings.AsciiSet
import Derived.Shelf.Strings.Explode
import Derived.Shelf.Unicode.DecodeSlow
import Derived.Shelf.Unicode.DecodeAny
import Derived.Shelf.Unicode.DecodeLast
import Derived.Shelf.Slices.In.SortNone
import Derived.Shelf.Strings.SlTrimAscii
import Derived.Shelf.SlIter.Sorted
import Derived.WalkKit
import Derived.Test.YtnhedhnnknnenaaDoorProg
namespace Go.Proofs.YtnhedhnnknnenaaDoor.Shelf
open Go.Proofs Go.RowKit
open Go.Shelf
def Tryd.lays137_ren:Go.Shelf.Ren:=⟨fun | 137=>47 | 217=>61 | 266=>69 | n=>n,fun | 9=>9 | 5=>5 | 3=>3 | n=>n,fun | n=>n⟩
theorem Tryd.lays137:Go.Proofs.Lays.n137 Tryd.prog Tryd.lays137_ren:={
  mixed:=by kernel_rfl
  f137:=Tryd.func47.trans (congrArg some (by kernel_rfl))
  f217:=Tryd.func61.trans (congrArg some (by kernel_rfl))
  f266:=Tryd.func69.trans (congrArg some (by kernel_rfl))
  t3:=Tryd.underlying3
  a3:=Tryd.isAgg3
  z3:=Tryd.sizeOf3
  v3:=Tryd.zeroValue3
  t5:=Tryd.underlying5
  a5:=Tryd.isAgg5
  z5:=Tryd.sizeOf5
  v5:=Tryd.zeroValue5
  t9:=Tryd.underlying9
  a9:=Tryd.isAgg9
  z9:=Tryd.sizeOf9
  v9:=Tryd.zeroValue9 }
open Go.RowKit in
/-- strings.IndexByte: "IndexByte returns the index of the first instance of c in s, or -1 if c is not present in s.": IT RETURNS 'Lib.indexByte s c'; the world is as it was. (LAID: no walk: one application.) -/
theorem Tryd.strings_IndexByte (s:ByteArray) (c:Int) (w:World) :
    Calls Tryd.prog 47 #[.string s,.int .u8 c] w fun e w'=>e=.returned (.int .i64 (Lib.indexByte s.data.toList c.toNat.toUInt8))∧w'=w:=Any.strings_IndexByte Tryd.lays137 s c w
def Tryd.lays190_ren:Go.Shelf.Ren:=⟨fun | 190=>16 | 125=>23 | 258=>22 | 128=>42 | 129=>43 | 302=>33 | 303=>34 | 304=>35 | 305=>36 | 306=>37 | 307=>38 | 308=>39 | 309=>40 | 310=>41 | 333=>52 | 329=>53 | 330=>54 | 334=>55 | 335=>56 | 336=>57 | 344=>65 | n=>n,fun | 31=>23 | 9=>9 | 3=>3 | 46=>55 | 0=>0 | 51=>75 | 53=>77 | 4=>4 | 183=>67 | 182=>66 | 131=>72 | 5=>5 | 218=>84 | 222=>88 | 228=>92 | 229=>93 | n=>n,fun | n=>n⟩
theorem Tryd.lays190:Go.Proofs.Lays.n190 Tryd.prog Tryd.lays190_ren:={
  mixed:=by kernel_rfl
  f125:=Tryd.func23.trans (congrArg some (by kernel_rfl))
  f128:=Tryd.func42.trans (congrArg some (by kernel_rfl))
  f129:=Tryd.func43.trans (congrArg some (by kernel_rfl))
  f190:=Tryd.func16.trans (congrArg some (by kernel_rfl))
  f258:=Tryd.func22.trans (congrArg some (by kernel_rfl))
  f302:=Tryd.func33.trans (congrArg some (by kernel_rfl))
  f303:=Tryd.func34.trans (congrArg some (by kernel_rfl))
  f304:=Tryd.func35.trans (congrArg some (by kernel_rfl))
  f305:=Tryd.func36.trans (congrArg some (by kernel_rfl))
  f306:=Tryd.func37.trans (congrArg some (by kernel_rfl))
  f307:=Tryd.func38.trans (congrArg some (by kernel_rfl))
  f308:=Tryd.func39.trans (congrArg some (by kernel_rfl))
  f309:=Tryd.func40.trans (congrArg some (by kernel_rfl))
  f310:=Tryd.func41.trans (congrArg some (by kernel_rfl))
  f329:=Tryd.func53.trans (congrArg some (by kernel_rfl))
  f330:=Tryd.func54.trans (congrArg some (by kernel_rfl))
  f333:=Tryd.func52.trans (congrArg some (by kernel_rfl))
  f334:=Tryd.func55.trans (congrArg some (by kernel_rfl))
  f335:=Tryd.func56.trans (congrArg some (by kernel_rfl))
  f336:=Tryd.func57.trans (congrArg some (by kernel_rfl))
  f344:=Tryd.func65.trans (congrArg some (by kernel_rfl))
  t0:=Tryd.underlying0
  a0:=Tryd.isAgg0
  z0:=Tryd.sizeOf0
  v0:=Tryd.zeroValue0
  t3:=Tryd.underlying3
  a3:=Tryd.isAgg3
  z3:=Tryd.sizeOf3
  v3:=Tryd.zeroValue3
  t4:=Tryd.underlying4
  a4:=Tryd.isAgg4
  z4:=Tryd.sizeOf4
  v4:=Tryd.zeroValue4
  t5:=Tryd.underlying5
  a5:=Tryd.isAgg5
  z5:=Tryd.sizeOf5
  v5:=Tryd.zeroValue5
  t9:=Tryd.underlying9
  a9:=Tryd.isAgg9
  z9:=Tryd.sizeOf9
  v9:=Tryd.zeroValue9
  t31:=Tryd.underlying23
  a31:=Tryd.isAgg23
  z31:=Tryd.sizeOf23
  v31:=Tryd.zeroValue23
  t46:=Tryd.underlying55
  a46:=Tryd.isAgg55
  z46:=Tryd.sizeOf55
  v46:=Tryd.zeroValue55
  t51:=Tryd.underlying75
  a51:=Tryd.isAgg75
  z51:=Tryd.sizeOf75
  v51:=Tryd.zeroValue75
  t53:=Tryd.underlying77
  a53:=Tryd.isAgg77
  z53:=Tryd.sizeOf77
  v53:=Tryd.zeroValue77
  t131:=Tryd.underlying72
  a131:=Tryd.isAgg72
  z131:=Tryd.sizeOf72
  v131:=Tryd.zeroValue72
  t182:=Tryd.underlying66
  a182:=Tryd.isAgg66
  z182:=Tryd.sizeOf66
  v182:=Tryd.zeroValue66
  t183:=Tryd.underlying67
  a183:=Tryd.isAgg67
  z183:=Tryd.sizeOf67
  v183:=Tryd.zeroValue67
  t218:=Tryd.underlying84
  a218:=Tryd.isAgg84
  z218:=Tryd.sizeOf84
  v218:=Tryd.zeroValue84
  t222:=Tryd.underlying88
  a222:=Tryd.isAgg88
  z222:=Tryd.sizeOf88
  v222:=Tryd.zeroValue88
  t228:=Tryd.underlying92
  a228:=Tryd.isAgg92
  z228:=Tryd.sizeOf92
  v228:=Tryd.zeroValue92
  t229:=Tryd.underlying93
  a229:=Tryd.isAgg93
  z229:=Tryd.sizeOf93
  v229:=Tryd.zeroValue93 }
open Go.Sort Go.RowKit in
theorem Tryd.slices_Sort_string (blk off cap:Nat) (ss:List (List UInt8)) (w:World) (hH:Holds encStr w blk off ss.toArray) (hblk:blk<w.heap.size) (hsz:ss.length<4611686018427387904) :
    Calls Tryd.prog 16 #[.slice (some ⟨blk,off,none⟩) ss.length cap] w fun e w' =>
      e=.returned (.tuple #[])∧∃ n os,w'=grow (putRow encStr (Sort.ahead w n) blk off (ss.mergeSort fun x y=>decide (x≤y)).toArray) os:=Any.slices_Sort_string Tryd.lays190 blk off cap ss w hH hblk hsz
def Tryd.lays146_ren:Go.Shelf.Ren:=⟨fun | 146=>18 | 221=>24 | 268=>44 | 138=>45 | 143=>46 | 195=>58 | 197=>49 | 218=>59 | 219=>60 | 260=>62 | 217=>61 | 225=>66 | 224=>67 | 267=>68 | 266=>69 | 314=>71 | n=>n,fun | 9=>9 | 31=>23 | 3=>3 | 4=>4 | 0=>0 | 105=>81 | 21=>21 | 5=>5 | 46=>55 | 119=>96 | 139=>99 | 138=>98 | 146=>101 | 51=>75 | n=>n,fun | 1=>0 | 3=>1 | 4=>2 | n=>n⟩
theorem Tryd.lays146:Go.Proofs.Lays.n146 Tryd.prog Tryd.lays146_ren:={
  mixed:=by kernel_rfl
  f138:=Tryd.func45.trans (congrArg some (by kernel_rfl))
  f143:=Tryd.func46.trans (congrArg some (by kernel_rfl))
  f146:=Tryd.func18.trans (congrArg some (by kernel_rfl))
  f195:=Tryd.func58.trans (congrArg some (by kernel_rfl))
  f197:=Tryd.func49.trans (congrArg some (by kernel_rfl))
  f217:=Tryd.func61.trans (congrArg some (by kernel_rfl))
  f218:=Tryd.func59.trans (congrArg some (by kernel_rfl))
  f219:=Tryd.func60.trans (congrArg some (by kernel_rfl))
  f221:=Tryd.func24.trans (congrArg some (by kernel_rfl))
  f224:=Tryd.func67.trans (congrArg some (by kernel_rfl))
  f225:=Tryd.func66.trans (congrArg some (by kernel_rfl))
  f260:=Tryd.func62.trans (congrArg some (by kernel_rfl))
  f266:=Tryd.func69.trans (congrArg some (by kernel_rfl))
  f267:=Tryd.func68.trans (congrArg some (by kernel_rfl))
  f268:=Tryd.func44.trans (congrArg some (by kernel_rfl))
  f314:=Tryd.func71.trans (congrArg some (by kernel_rfl))
  t0:=Tryd.underlying0
  a0:=Tryd.isAgg0
  z0:=Tryd.sizeOf0
  v0:=Tryd.zeroValue0
  t3:=Tryd.underlying3
  a3:=Tryd.isAgg3
  z3:=Tryd.sizeOf3
  v3:=Tryd.zeroValue3
  t4:=Tryd.underlying4
  a4:=Tryd.isAgg4
  z4:=Tryd.sizeOf4
  v4:=Tryd.zeroValue4
  t5:=Tryd.underlying5
  a5:=Tryd.isAgg5
  z5:=Tryd.sizeOf5
  v5:=Tryd.zeroValue5
  t9:=Tryd.underlying9
  a9:=Tryd.isAgg9
  z9:=Tryd.sizeOf9
  v9:=Tryd.zeroValue9
  t21:=Tryd.underlying21
  a21:=Tryd.isAgg21
  z21:=Tryd.sizeOf21
  v21:=Tryd.zeroValue21
  t31:=Tryd.underlying23
  a31:=Tryd.isAgg23
  z31:=Tryd.sizeOf23
  v31:=Tryd.zeroValue23
  t46:=Tryd.underlying55
  a46:=Tryd.isAgg55
  z46:=Tryd.sizeOf55
  v46:=Tryd.zeroValue55
  t51:=Tryd.underlying75
  a51:=Tryd.isAgg75
  z51:=Tryd.sizeOf75
  v51:=Tryd.zeroValue75
  t105:=Tryd.underlying81
  a105:=Tryd.isAgg81
  z105:=Tryd.sizeOf81
  v105:=Tryd.zeroValue81
  t119:=Tryd.underlying96
  a119:=Tryd.isAgg96
  z119:=Tryd.sizeOf96
  t138:=Tryd.underlying98
  a138:=Tryd.isAgg98
  z138:=Tryd.sizeOf98
  v138:=Tryd.zeroValue98
  t139:=Tryd.underlying99
  a139:=Tryd.isAgg99
  z139:=Tryd.sizeOf99
  v139:=Tryd.zeroValue99
  t146:=Tryd.underlying101
  a146:=Tryd.isAgg101
  z146:=Tryd.sizeOf101
  v146:=Tryd.zeroValue101
  g1:=by kernel_rfl
  g3:=by kernel_rfl
  g4:=by kernel_rfl }
open Go.RowKit Go.Lib in
/-- strings.Split. (LAID: no walk: one application.) -/
theorem Tryd.strings_Split (s sep:ByteArray) (m:Int) (w:World) (hs:s.size<4294967281) (hm:w.cell? ⟨0,0,none⟩=some (.int .i64 m)) (h1:1≤sep.size) :
    Calls Tryd.prog 18 #[.string s,.string sep] w fun e w' =>
      e=.returned (.slice (some ⟨w.heap.size,0,none⟩) (Lib.countB s sep+1) (Lib.countB s sep+1))∧w'=w.alloc (.cells ((Lib.splitB sep 0 (Lib.countB s sep) s).map Value.string).toArray 9):=Any.strings_Split Tryd.lays146 (by kernel_rfl) s sep m w hs hm h1
open Go.RowKit Go.Sort in
/-- .. and plain. (LAID: no walk: one application.) -/
theorem Tryd.slices_Sort_string_none (p:Option Addr) (cap:Nat) (w:World) :
    Calls Tryd.prog 16 #[.slice p 0 cap] w fun e w'=>e=.returned (.tuple #[])∧w'=w:=Any.slices_Sort_string_none Tryd.lays190 p cap w
def Tryd.lays160s_ren:Go.Shelf.Ren:=⟨fun | 160=>20 | 232=>27 | 231=>26 | 227=>28 | 234=>30 | 233=>29 | 236=>32 | 235=>31 | 228=>48 | 271=>51 | 151=>50 | 197=>49 | 120=>64 | 152=>63 | 260=>62 | 137=>47 | 119=>70 | 224=>67 | 225=>66 | 217=>61 | 266=>69 | n=>n,fun | 9=>9 | 4=>4 | 3=>3 | 5=>5 | 117=>61 | 116=>60 | 0=>0 | 124=>64 | 21=>21 | 105=>81 | 46=>55 | 119=>96 | 139=>99 | 138=>98 | n=>n,fun | 3=>1 | 4=>2 | n=>n⟩
theorem Tryd.lays160s:Go.Proofs.Lays.n160 Tryd.prog Tryd.lays160s_ren:={
  mixed:=by kernel_rfl
  f119:=Tryd.func70.trans (congrArg some (by kernel_rfl))
  f120:=Tryd.func64.trans (congrArg some (by kernel_rfl))
  f137:=Tryd.func47.trans (congrArg some (by kernel_rfl))
  f151:=Tryd.func50.trans (congrArg some (by kernel_rfl))
  f152:=Tryd.func63.trans (congrArg some (by kernel_rfl))
  f160:=Tryd.func20.trans (congrArg some (by kernel_rfl))
  f197:=Tryd.func49.trans (congrArg some (by kernel_rfl))
  f217:=Tryd.func61.trans (congrArg some (by kernel_rfl))
  f224:=Tryd.func67.trans (congrArg some (by kernel_rfl))
  f225:=Tryd.func66.trans (congrArg some (by kernel_rfl))
  f227:=Tryd.func28.trans (congrArg some (by kernel_rfl))
  f228:=Tryd.func48.trans (congrArg some (by kernel_rfl))
  f231:=Tryd.func26.trans (congrArg some (by kernel_rfl))
  f232:=Tryd.func27.trans (congrArg some (by kernel_rfl))
  f233:=Tryd.func29.trans (congrArg some (by kernel_rfl))
  f234:=Tryd.func30.trans (congrArg some (by kernel_rfl))
  f235:=Tryd.func31.trans (congrArg some (by kernel_rfl))
  f236:=Tryd.func32.trans (congrArg some (by kernel_rfl))
  f260:=Tryd.func62.trans (congrArg some (by kernel_rfl))
  f266:=Tryd.func69.trans (congrArg some (by kernel_rfl))
  f271:=Tryd.func51.trans (congrArg some (by kernel_rfl))
  t0:=Tryd.underlying0
  a0:=Tryd.isAgg0
  z0:=Tryd.sizeOf0
  v0:=Tryd.zeroValue0
  t3:=Tryd.underlying3
  a3:=Tryd.isAgg3
  z3:=Tryd.sizeOf3
  v3:=Tryd.zeroValue3
  t4:=Tryd.underlying4
  a4:=Tryd.isAgg4
  z4:=Tryd.sizeOf4
  v4:=Tryd.zeroValue4
  t5:=Tryd.underlying5
  a5:=Tryd.isAgg5
  z5:=Tryd.sizeOf5
  v5:=Tryd.zeroValue5
  t9:=Tryd.underlying9
  a9:=Tryd.isAgg9
  z9:=Tryd.sizeOf9
  v9:=Tryd.zeroValue9
  t21:=Tryd.underlying21
  a21:=Tryd.isAgg21
  z21:=Tryd.sizeOf21
  v21:=Tryd.zeroValue21
  t46:=Tryd.underlying55
  a46:=Tryd.isAgg55
  z46:=Tryd.sizeOf55
  v46:=Tryd.zeroValue55
  t105:=Tryd.underlying81
  a105:=Tryd.isAgg81
  z105:=Tryd.sizeOf81
  v105:=Tryd.zeroValue81
  t116:=Tryd.underlying60
  a116:=Tryd.isAgg60
  z116:=Tryd.sizeOf60
  t117:=Tryd.underlying61
  a117:=Tryd.isAgg61
  z117:=Tryd.sizeOf61
  v117:=Tryd.zeroValue61
  t119:=Tryd.underlying96
  a119:=Tryd.isAgg96
  z119:=Tryd.sizeOf96
  t124:=Tryd.underlying64
  a124:=Tryd.isAgg64
  z124:=Tryd.sizeOf64
  v124:=Tryd.zeroValue64
  t138:=Tryd.underlying98
  a138:=Tryd.isAgg98
  z138:=Tryd.sizeOf98
  v138:=Tryd.zeroValue98
  t139:=Tryd.underlying99
  a139:=Tryd.isAgg99
  z139:=Tryd.sizeOf99
  v139:=Tryd.zeroValue99
  g3:=by kernel_rfl
  g4:=by kernel_rfl }
open Go.RowKit in
/-- strings.Trim at an ASCII cutset. -/
theorem Tryd.strings_Trim (s cutset:ByteArray) (w:World) (hs:s.size≤9223372036854775807) (hcs:cutset.size<4294967281) (hascii:∀ (j:Nat) b,cutset.data.toList[j]? = some b→b.toNat<128) :
    Calls Tryd.prog 20 #[.string s,.string cutset] w fun e w'=>e=.returned (.string ⟨(Lib.trimS s.data.toList cutset.data.toList).toArray⟩)∧Below w.heap.size w w':=Any.strings_Trim_laid Tryd.lays160s (by kernel_rfl) s cutset w hs hcs hascii
def Tryd.keysLay_ren:Go.Shelf.Ren:=⟨fun | 7=>10 | 10=>17 | n=>n,fun | 23=>32 | 26=>9 | 3=>4 | 28=>42 | 0=>0 | 27=>41 | 33=>47 | 4=>4 | n=>n,fun | n=>n⟩
theorem Tryd.keysLay:Go.Proofs.SlLaysZ.n7 Tryd.prog Tryd.keysLay_ren:={
  mixed:=by kernel_rfl
  f7:=⟨Tryd.f10.name,by decide,Tryd.func10.trans (congrArg some (by kernel_rfl))⟩
  f10:=⟨Tryd.f17.name,by decide,Tryd.func17.trans (congrArg some (by kernel_rfl))⟩
  t0:=Tryd.underlying0
  a0:=Tryd.isAgg0
  z0:=Tryd.sizeOf0
  v0:=Tryd.zeroValue0
  t4:=Tryd.underlying4
  a4:=Tryd.isAgg4
  z4:=Tryd.sizeOf4
  v4:=Tryd.zeroValue4
  t23:=Tryd.underlying32
  a23:=Tryd.isAgg32
  z23:=Tryd.sizeOf32
  v23:=Tryd.zeroValue32
  t26:=Tryd.underlying9
  a26:=Tryd.isAgg9
  z26:=Tryd.sizeOf9
  v26:=Tryd.zeroValue9
  t27:=Tryd.underlying41
  a27:=Tryd.isAgg41
  z27:=Tryd.sizeOf41
  v27:=Tryd.zeroValue41
  t28:=Tryd.underlying42
  a28:=Tryd.isAgg42
  z28:=Tryd.sizeOf42
  v28:=Tryd.zeroValue42
  t33:=Tryd.underlying47
  a33:=Tryd.isAgg47
  z33:=Tryd.sizeOf47
  v33:=Tryd.zeroValue47 }
def Tryd.sortedLay_ren:Go.Shelf.Ren:=⟨fun | 6=>9 | 8=>15 | 9=>16 | 11=>21 | 13=>23 | 12=>22 | 23=>42 | 24=>43 | 14=>33 | 15=>34 | 16=>35 | 17=>36 | 18=>37 | 19=>38 | 20=>39 | 21=>40 | 22=>41 | 25=>52 | 26=>53 | 27=>54 | 28=>55 | 29=>56 | 30=>57 | 31=>65 | n=>n,fun | 26=>9 | 28=>42 | 24=>23 | 0=>0 | 3=>3 | 37=>55 | 48=>75 | 50=>77 | 4=>4 | 40=>67 | 39=>66 | 45=>72 | 5=>5 | 9=>9 | 51=>84 | 55=>88 | 57=>92 | 58=>93 | 33=>47 | n=>n,fun | n=>n⟩
theorem Tryd.sortedLay:Go.Proofs.SlLaysZ.n6 Tryd.prog Tryd.sortedLay_ren:={
  mixed:=by kernel_rfl
  f6:=⟨Tryd.f9.name,by decide,Tryd.func9.trans (congrArg some (by kernel_rfl))⟩
  f8:=⟨Tryd.f15.name,by decide,Tryd.func15.trans (congrArg some (by kernel_rfl))⟩
  f11:=⟨Tryd.f21.name,by decide,Tryd.func21.trans (congrArg some (by kernel_rfl))⟩
  t0:=Tryd.underlying0
  a0:=Tryd.isAgg0
  z0:=Tryd.sizeOf0
  v0:=Tryd.zeroValue0
  t24:=Tryd.underlying23
  a24:=Tryd.isAgg23
  z24:=Tryd.sizeOf23
  v24:=Tryd.zeroValue23
  t26:=Tryd.underlying9
  a26:=Tryd.isAgg9
  z26:=Tryd.sizeOf9
  v26:=Tryd.zeroValue9
  t28:=Tryd.underlying42
  a28:=Tryd.isAgg42
  z28:=Tryd.sizeOf42
  v28:=Tryd.zeroValue42
  i26:=by kernel_rfl }
open Go.RowKit Go.Sort Go.Maps in
/-- slices.Sort at any fence that asks nothing. -/
theorem Tryd.sorts (m:Nat):AnyZ.SortsIn Tryd.prog Tryd.sortedLay_ren Fence.wide m :=
  ⟨fun blk off cap ss W hH hblk hsz=>callsIn_wide.2 (Tryd.slices_Sort_string blk off cap ss W hH hblk hsz),fun p cap W=>callsIn_wide.2 (Tryd.slices_Sort_string_none p cap W)⟩
open Go.RowKit Go.Sort Go.Maps in
/-- maps.Keys: a function value over one new block, which holds the map. -/
theorem Tryd.maps_Keys (mb:Option Nat) (W:World):Calls Tryd.prog 10 #[.map mb] W fun e w'=>e=.returned (.func (.func 17) #[] #[.pointer (some ⟨W.heap.size,0,none⟩)])∧w'=W.alloc (.cells #[.map mb] 32) :=
  callsIn_wide.1 (AnyZ.keys_in Tryd.keysLay Fence.wide 5 trivial rfl mb W)
open Go.RowKit Go.Sort Go.Maps in
/-- slices.Sorted of what maps.Keys handed back. -/
theorem Tryd.slices_Sorted_keys {R:Value→Option (DataW Unit × List MemPlace)} (Bm b nn:Nat) (D0:DataW Unit) (w:World) (hBm:Bm<w.heap.size) (hm:w.cell? ⟨Bm,0,none⟩=some (.map (some b))) (hown:w.ownsMap Tryd.prog 9 R b nn D0) (hmax:Maps.size D0≤maxLen) (hbytes:Maps.size D0*16≤140737488355328) :
    Calls Tryd.prog 9 #[.func (.func 17) #[] #[.pointer (some ⟨Bm,0,none⟩)]] w fun e w'=>∃ (v:Value) (ss:List (List UInt8)),e=.returned v∧ss.Perm (strKeys D0) ∧
      w'.ownsRow w.heap.size 9 1 v ss.length ((ss.mergeSort (fun x y=>decide (x≤y))).map encStr)∧(v=.slice none 0 0↔ss=[])∧Below w.heap.size w w':=by
  have hseq:SeqGives Fence.wide 2 Tryd.prog 17 #[.pointer (some ⟨Bm,0,none⟩)] encStr (fun ss=>ss.Perm (strKeys D0)) (Maps.size D0) w :=
    AnyZ.keys_gives (ρ:=Tryd.keysLay_ren) { Tryd.keysLay with } Fence.wide _ trivial rfl (by omega) Bm b nn D0 w hBm hm hown
  exact callsIn_wide.1 (AnyZ.sorted_in Tryd.sortedLay Fence.wide 5 trivial trivial trivial trivial rfl (by omega) (Tryd.sorts _) (enters_of Tryd.func16 (by kernel_rfl) rfl) 17 #[.pointer (some ⟨Bm,0,none⟩)] trivial (enters_of Tryd.func17 (by kernel_rfl) rfl) _ _ hmax hbytes w hseq)
end Go.Proofs.YtnhedhnnknnenaaDoor.Shelf
