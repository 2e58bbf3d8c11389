/- Contracts of the shelf, laid at this program. -/
import Derived.Shelf.Strings.Trim
import Derived.Shelf.Small.Utf8
import Derived.Shelf.Small.Strs
import Derived.Shelf.Strings.Search1
import Derived.Shelf.Unicode.Decode
import Derived.Shelf.Strings.Runes
import Derived.Shelf.Strings.AsciiSet
import Derived.Shelf.Unicode.DecodeSlow
import Derived.Shelf.Unicode.DecodeAny
import Derived.Shelf.Unicode.DecodeLast
import Derived.Shelf.Slices.Clone
import Derived.Shelf.Slices.SearchI
import Derived.Shelf.SlicesE.Clone
import Derived.Shelf.Strings.SlTrimAscii
import Derived.Test.YtjdnnkdhajhdkaaGreatDoorProg
namespace Go.Proofs.YtjdnnkdhajhdkaaGreatDoor.Shelf
open Go.Proofs Go.RowKit
open Go.Shelf
def Tryz.lays106_ren:Go.Shelf.Ren:=⟨fun | 106=>53 | 213=>77 | 265=>93 | n=>n,fun | 9=>9 | 3=>3 | n=>n,fun | n=>n⟩
theorem Tryz.lays106:Go.Proofs.Lays.n106 Tryz.prog Tryz.lays106_ren:={
  mixed:=by kernel_rfl
  f106:=Tryz.func53.trans (congrArg some (by kernel_rfl))
  f213:=Tryz.func77.trans (congrArg some (by kernel_rfl))
  f265:=Tryz.func93.trans (congrArg some (by kernel_rfl))
  t3:=Tryz.underlying3
  a3:=Tryz.isAgg3
  z3:=Tryz.sizeOf3
  v3:=Tryz.zeroValue3
  t9:=Tryz.underlying9
  a9:=Tryz.isAgg9
  z9:=Tryz.sizeOf9
  v9:=Tryz.zeroValue9 }
open Go.RowKit in
/-- strings.Compare: "Compare returns an integer comparing two strings lexicographically. The result will be 0 if a == b, -1 if a < b, and +1 if a > b.": IT RETURNS 'Lib.compareBytes a b'; the world is as it was. (LAID: no walk: one application.) -/
theorem Tryz.strings_Compare (a b:ByteArray) (w:World) :
    Calls Tryz.prog 53 #[.string a,.string b] w fun e w'=>e=.returned (.int .i64 (Lib.compareBytes a.data.toList b.data.toList))∧w'=w:=Any.strings_Compare Tryz.lays106 a b w
def Tryz.lays160s_ren:Go.Shelf.Ren:=⟨fun | 160=>49 | 232=>71 | 231=>70 | 227=>72 | 234=>74 | 233=>73 | 236=>76 | 235=>75 | 228=>89 | 271=>92 | 151=>91 | 197=>90 | 120=>102 | 152=>101 | 260=>100 | 137=>107 | 119=>108 | 224=>109 | 225=>110 | 217=>113 | 266=>115 | n=>n,fun | 9=>9 | 4=>4 | 3=>3 | 5=>5 | 117=>99 | 116=>98 | 0=>0 | 124=>102 | 21=>21 | 105=>114 | 46=>103 | 119=>124 | 139=>127 | 138=>126 | n=>n,fun | 3=>1 | 4=>2 | n=>n⟩
theorem Tryz.lays160s:Go.Proofs.Lays.n160 Tryz.prog Tryz.lays160s_ren:={
  mixed:=by kernel_rfl
  f119:=Tryz.func108.trans (congrArg some (by kernel_rfl))
  f120:=Tryz.func102.trans (congrArg some (by kernel_rfl))
  f137:=Tryz.func107.trans (congrArg some (by kernel_rfl))
  f151:=Tryz.func91.trans (congrArg some (by kernel_rfl))
  f152:=Tryz.func101.trans (congrArg some (by kernel_rfl))
  f160:=Tryz.func49.trans (congrArg some (by kernel_rfl))
  f197:=Tryz.func90.trans (congrArg some (by kernel_rfl))
  f217:=Tryz.func113.trans (congrArg some (by kernel_rfl))
  f224:=Tryz.func109.trans (congrArg some (by kernel_rfl))
  f225:=Tryz.func110.trans (congrArg some (by kernel_rfl))
  f227:=Tryz.func72.trans (congrArg some (by kernel_rfl))
  f228:=Tryz.func89.trans (congrArg some (by kernel_rfl))
  f231:=Tryz.func70.trans (congrArg some (by kernel_rfl))
  f232:=Tryz.func71.trans (congrArg some (by kernel_rfl))
  f233:=Tryz.func73.trans (congrArg some (by kernel_rfl))
  f234:=Tryz.func74.trans (congrArg some (by kernel_rfl))
  f235:=Tryz.func75.trans (congrArg some (by kernel_rfl))
  f236:=Tryz.func76.trans (congrArg some (by kernel_rfl))
  f260:=Tryz.func100.trans (congrArg some (by kernel_rfl))
  f266:=Tryz.func115.trans (congrArg some (by kernel_rfl))
  f271:=Tryz.func92.trans (congrArg some (by kernel_rfl))
  t0:=Tryz.underlying0
  a0:=Tryz.isAgg0
  z0:=Tryz.sizeOf0
  v0:=Tryz.zeroValue0
  t3:=Tryz.underlying3
  a3:=Tryz.isAgg3
  z3:=Tryz.sizeOf3
  v3:=Tryz.zeroValue3
  t4:=Tryz.underlying4
  a4:=Tryz.isAgg4
  z4:=Tryz.sizeOf4
  v4:=Tryz.zeroValue4
  t5:=Tryz.underlying5
  a5:=Tryz.isAgg5
  z5:=Tryz.sizeOf5
  v5:=Tryz.zeroValue5
  t9:=Tryz.underlying9
  a9:=Tryz.isAgg9
  z9:=Tryz.sizeOf9
  v9:=Tryz.zeroValue9
  t21:=Tryz.underlying21
  a21:=Tryz.isAgg21
  z21:=Tryz.sizeOf21
  v21:=Tryz.zeroValue21
  t46:=Tryz.underlying103
  a46:=Tryz.isAgg103
  z46:=Tryz.sizeOf103
  v46:=Tryz.zeroValue103
  t105:=Tryz.underlying114
  a105:=Tryz.isAgg114
  z105:=Tryz.sizeOf114
  v105:=Tryz.zeroValue114
  t116:=Tryz.underlying98
  a116:=Tryz.isAgg98
  z116:=Tryz.sizeOf98
  t117:=Tryz.underlying99
  a117:=Tryz.isAgg99
  z117:=Tryz.sizeOf99
  v117:=Tryz.zeroValue99
  t119:=Tryz.underlying124
  a119:=Tryz.isAgg124
  z119:=Tryz.sizeOf124
  t124:=Tryz.underlying102
  a124:=Tryz.isAgg102
  z124:=Tryz.sizeOf102
  v124:=Tryz.zeroValue102
  t138:=Tryz.underlying126
  a138:=Tryz.isAgg126
  z138:=Tryz.sizeOf126
  v138:=Tryz.zeroValue126
  t139:=Tryz.underlying127
  a139:=Tryz.isAgg127
  z139:=Tryz.sizeOf127
  v139:=Tryz.zeroValue127
  g3:=by kernel_rfl
  g4:=by kernel_rfl }
open Go.RowKit in
/-- strings.Trim at an ASCII cutset. -/
theorem Tryz.strings_Trim (s cutset:ByteArray) (w:World) (hs:s.size≤9223372036854775807) (hcs:cutset.size<4294967281) (hascii:∀ (j:Nat) b,cutset.data.toList[j]? = some b→b.toNat<128) :
    Calls Tryz.prog 49 #[.string s,.string cutset] w fun e w'=>e=.returned (.string ⟨(Lib.trimS s.data.toList cutset.data.toList).toArray⟩)∧Below w.heap.size w w':=Any.strings_Trim_laid Tryz.lays160s (by kernel_rfl) s cutset w hs hcs hascii
end Go.Proofs.YtjdnnkdhajhdkaaGreatDoor.Shelf
