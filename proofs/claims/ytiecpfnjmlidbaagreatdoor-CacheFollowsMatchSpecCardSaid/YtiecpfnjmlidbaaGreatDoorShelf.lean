/- Contracts of the shelf, laid at this program. -/
import Derived.Shelf.Strings.Trim
import Derived.Shelf.Small.Utf8
import Derived.Shelf.Small.Strs
import Derived.Shelf.Small.Wraps
import Derived.Shelf.Strings.Search1
import Derived.Shelf.Unicode.Decode
import Derived.Shelf.Strings.Runes
import Derived.Shelf.Strings.AsciiSet
import Derived.Shelf.Unicode.DecodeSlow
import Derived.Shelf.Unicode.DecodeAny
import Derived.Shelf.Unicode.DecodeLast
import Derived.Shelf.Slices.Clone
import Derived.Shelf.Slices.SearchI
import Derived.Shelf.SlicesE.Clone
import Derived.Shelf.Strings.SlTrimAscii
import Derived.Test.YtiecpfnjmlidbaaGreatDoorProg
namespace Go.Proofs.YtiecpfnjmlidbaaGreatDoor.Shelf
open Go.Proofs Go.RowKit
open Go.Shelf
def Tryz.lays106_ren:Go.Shelf.Ren:=⟨fun | 106=>63 | 213=>87 | 265=>102 | n=>n,fun | 9=>9 | 3=>3 | n=>n,fun | n=>n⟩
theorem Tryz.lays106:Go.Proofs.Lays.n106 Tryz.prog Tryz.lays106_ren:={
  mixed:=by kernel_rfl
  f106:=Tryz.func63.trans (congrArg some (by kernel_rfl))
  f213:=Tryz.func87.trans (congrArg some (by kernel_rfl))
  f265:=Tryz.func102.trans (congrArg some (by kernel_rfl))
  t3:=Tryz.underlying3
  a3:=Tryz.isAgg3
  z3:=Tryz.sizeOf3
  v3:=Tryz.zeroValue3
  t9:=Tryz.underlying9
  a9:=Tryz.isAgg9
  z9:=Tryz.sizeOf9
  v9:=Tryz.zeroValue9 }
open Go.RowKit in
/-- strings.Compare: "Compare returns an integer comparing two strings lexicographically. The result will be 0 if a == b, -1 if a < b, and +1 if a > b.": IT RETURNS 'Lib.compareBytes a b'; the world is as it was. (LAID: no walk: one application.) -/
theorem Tryz.strings_Compare (a b:ByteArray) (w:World) :
    Calls Tryz.prog 63 #[.string a,.string b] w fun e w'=>e=.returned (.int .i64 (Lib.compareBytes a.data.toList b.data.toList))∧w'=w:=Any.strings_Compare Tryz.lays106 a b w
def Tryz.lays160s_ren:Go.Shelf.Ren:=⟨fun | 160=>59 | 232=>81 | 231=>80 | 227=>82 | 234=>84 | 233=>83 | 236=>86 | 235=>85 | 228=>98 | 271=>101 | 151=>100 | 197=>99 | 120=>111 | 152=>110 | 260=>109 | 137=>116 | 119=>117 | 224=>118 | 225=>119 | 217=>122 | 266=>124 | n=>n,fun | 9=>9 | 4=>4 | 3=>3 | 5=>5 | 117=>107 | 116=>106 | 0=>0 | 124=>110 | 21=>21 | 105=>122 | 46=>111 | 119=>132 | 139=>135 | 138=>134 | n=>n,fun | 3=>1 | 4=>2 | n=>n⟩
theorem Tryz.lays160s:Go.Proofs.Lays.n160 Tryz.prog Tryz.lays160s_ren:={
  mixed:=by kernel_rfl
  f119:=Tryz.func117.trans (congrArg some (by kernel_rfl))
  f120:=Tryz.func111.trans (congrArg some (by kernel_rfl))
  f137:=Tryz.func116.trans (congrArg some (by kernel_rfl))
  f151:=Tryz.func100.trans (congrArg some (by kernel_rfl))
  f152:=Tryz.func110.trans (congrArg some (by kernel_rfl))
  f160:=Tryz.func59.trans (congrArg some (by kernel_rfl))
  f197:=Tryz.func99.trans (congrArg some (by kernel_rfl))
  f217:=Tryz.func122.trans (congrArg some (by kernel_rfl))
  f224:=Tryz.func118.trans (congrArg some (by kernel_rfl))
  f225:=Tryz.func119.trans (congrArg some (by kernel_rfl))
  f227:=Tryz.func82.trans (congrArg some (by kernel_rfl))
  f228:=Tryz.func98.trans (congrArg some (by kernel_rfl))
  f231:=Tryz.func80.trans (congrArg some (by kernel_rfl))
  f232:=Tryz.func81.trans (congrArg some (by kernel_rfl))
  f233:=Tryz.func83.trans (congrArg some (by kernel_rfl))
  f234:=Tryz.func84.trans (congrArg some (by kernel_rfl))
  f235:=Tryz.func85.trans (congrArg some (by kernel_rfl))
  f236:=Tryz.func86.trans (congrArg some (by kernel_rfl))
  f260:=Tryz.func109.trans (congrArg some (by kernel_rfl))
  f266:=Tryz.func124.trans (congrArg some (by kernel_rfl))
  f271:=Tryz.func101.trans (congrArg some (by kernel_rfl))
  t0:=Tryz.underlying0
  a0:=Tryz.isAgg0
  z0:=Tryz.sizeOf0
  v0:=Tryz.zeroValue0
  t3:=Tryz.underlying3
  a3:=Tryz.isAgg3
  z3:=Tryz.sizeOf3
  v3:=Tryz.zeroValue3
  t4:=Tryz.underlying4
  a4:=Tryz.isAgg4
  z4:=Tryz.sizeOf4
  v4:=Tryz.zeroValue4
  t5:=Tryz.underlying5
  a5:=Tryz.isAgg5
  z5:=Tryz.sizeOf5
  v5:=Tryz.zeroValue5
  t9:=Tryz.underlying9
  a9:=Tryz.isAgg9
  z9:=Tryz.sizeOf9
  v9:=Tryz.zeroValue9
  t21:=Tryz.underlying21
  a21:=Tryz.isAgg21
  z21:=Tryz.sizeOf21
  v21:=Tryz.zeroValue21
  t46:=Tryz.underlying111
  a46:=Tryz.isAgg111
  z46:=Tryz.sizeOf111
  v46:=Tryz.zeroValue111
  t105:=Tryz.underlying122
  a105:=Tryz.isAgg122
  z105:=Tryz.sizeOf122
  v105:=Tryz.zeroValue122
  t116:=Tryz.underlying106
  a116:=Tryz.isAgg106
  z116:=Tryz.sizeOf106
  t117:=Tryz.underlying107
  a117:=Tryz.isAgg107
  z117:=Tryz.sizeOf107
  v117:=Tryz.zeroValue107
  t119:=Tryz.underlying132
  a119:=Tryz.isAgg132
  z119:=Tryz.sizeOf132
  t124:=Tryz.underlying110
  a124:=Tryz.isAgg110
  z124:=Tryz.sizeOf110
  v124:=Tryz.zeroValue110
  t138:=Tryz.underlying134
  a138:=Tryz.isAgg134
  z138:=Tryz.sizeOf134
  v138:=Tryz.zeroValue134
  t139:=Tryz.underlying135
  a139:=Tryz.isAgg135
  z139:=Tryz.sizeOf135
  v139:=Tryz.zeroValue135
  g3:=by kernel_rfl
  g4:=by kernel_rfl }
open Go.RowKit in
/-- strings.Trim at an ASCII cutset. -/
theorem Tryz.strings_Trim (s cutset:ByteArray) (w:World) (hs:s.size≤9223372036854775807) (hcs:cutset.size<4294967281) (hascii:∀ (j:Nat) b,cutset.data.toList[j]? = some b→b.toNat<128) :
    Calls Tryz.prog 59 #[.string s,.string cutset] w fun e w'=>e=.returned (.string ⟨(Lib.trimS s.data.toList cutset.data.toList).toArray⟩)∧Below w.heap.size w w':=Any.strings_Trim_laid Tryz.lays160s (by kernel_rfl) s cutset w hs hcs hascii
end Go.Proofs.YtiecpfnjmlidbaaGreatDoor.Shelf
