/- Contracts of the shelf, laid at this program. -/
import Derived.Shelf.Strings.Trim
import Derived.Shelf.Small.Utf8
import Derived.Shelf.Small.Strs
import Derived.Shelf.Strings.Search1
import Derived.Shelf.Unicode.Decode
import Derived.Shelf.Strings.Runes
import Derived.Shelf.Strings.AsciiSet
import Derived.Shelf.Unicode.DecodeSlow
import Derived.Shelf.Unicode.DecodeAny
import Derived.Shelf.Unicode.DecodeLast
import Derived.Ground.Names2Prog
import Derived.Shelf.Slices.Clone
import Derived.Ground.SlgnProg
import Derived.Shelf.SlicesE.Clone
import Derived.Shelf.Strings.SlTrimAscii
import Derived.Test.YteljhhgffmpgnaaDoorProg
namespace Go.Proofs.YteljhhgffmpgnaaDoor.Shelf
open Go.Proofs Go.RowKit
open Go.Shelf
def Tryd.lays106_ren:Go.Shelf.Ren:=⟨fun | 106=>48 | 213=>55 | 265=>64 | n=>n,fun | 9=>9 | 3=>3 | n=>n,fun | n=>n⟩
theorem Tryd.lays106:Go.Proofs.Lays.n106 Tryd.prog Tryd.lays106_ren:={
  mixed:=by kernel_rfl
  f106:=Tryd.func48.trans (congrArg some (by kernel_rfl))
  f213:=Tryd.func55.trans (congrArg some (by kernel_rfl))
  f265:=Tryd.func64.trans (congrArg some (by kernel_rfl))
  t3:=Tryd.underlying3
  a3:=Tryd.isAgg3
  z3:=Tryd.sizeOf3
  v3:=Tryd.zeroValue3
  t9:=Tryd.underlying9
  a9:=Tryd.isAgg9
  z9:=Tryd.sizeOf9
  v9:=Tryd.zeroValue9 }
open Go.RowKit in
/-- strings.Compare: "Compare returns an integer comparing two strings lexicographically. The result will be 0 if a == b, -1 if a < b, and +1 if a > b.": IT RETURNS 'Lib.compareBytes a b'; the world is as it was. (LAID: no walk: one application.) -/
theorem Tryd.strings_Compare (a b:ByteArray) (w:World) :
    Calls Tryd.prog 48 #[.string a,.string b] w fun e w'=>e=.returned (.int .i64 (Lib.compareBytes a.data.toList b.data.toList))∧w'=w:=Any.strings_Compare Tryd.lays106 a b w
def Tryd.lays160s_ren:Go.Shelf.Ren:=⟨fun | 160=>53 | 232=>58 | 231=>57 | 227=>59 | 234=>61 | 233=>60 | 236=>63 | 235=>62 | 228=>65 | 271=>68 | 151=>67 | 197=>66 | 120=>71 | 152=>70 | 260=>69 | 137=>72 | 119=>73 | 224=>74 | 225=>75 | 217=>76 | 266=>77 | n=>n,fun | 9=>9 | 4=>4 | 3=>3 | 5=>5 | 117=>88 | 116=>87 | 0=>0 | 124=>91 | 21=>21 | 105=>93 | 46=>83 | 119=>97 | 139=>100 | 138=>99 | n=>n,fun | 3=>1 | 4=>2 | n=>n⟩
theorem Tryd.lays160s:Go.Proofs.Lays.n160 Tryd.prog Tryd.lays160s_ren:={
  mixed:=by kernel_rfl
  f119:=Tryd.func73.trans (congrArg some (by kernel_rfl))
  f120:=Tryd.func71.trans (congrArg some (by kernel_rfl))
  f137:=Tryd.func72.trans (congrArg some (by kernel_rfl))
  f151:=Tryd.func67.trans (congrArg some (by kernel_rfl))
  f152:=Tryd.func70.trans (congrArg some (by kernel_rfl))
  f160:=Tryd.func53.trans (congrArg some (by kernel_rfl))
  f197:=Tryd.func66.trans (congrArg some (by kernel_rfl))
  f217:=Tryd.func76.trans (congrArg some (by kernel_rfl))
  f224:=Tryd.func74.trans (congrArg some (by kernel_rfl))
  f225:=Tryd.func75.trans (congrArg some (by kernel_rfl))
  f227:=Tryd.func59.trans (congrArg some (by kernel_rfl))
  f228:=Tryd.func65.trans (congrArg some (by kernel_rfl))
  f231:=Tryd.func57.trans (congrArg some (by kernel_rfl))
  f232:=Tryd.func58.trans (congrArg some (by kernel_rfl))
  f233:=Tryd.func60.trans (congrArg some (by kernel_rfl))
  f234:=Tryd.func61.trans (congrArg some (by kernel_rfl))
  f235:=Tryd.func62.trans (congrArg some (by kernel_rfl))
  f236:=Tryd.func63.trans (congrArg some (by kernel_rfl))
  f260:=Tryd.func69.trans (congrArg some (by kernel_rfl))
  f266:=Tryd.func77.trans (congrArg some (by kernel_rfl))
  f271:=Tryd.func68.trans (congrArg some (by kernel_rfl))
  t0:=Tryd.underlying0
  a0:=Tryd.isAgg0
  z0:=Tryd.sizeOf0
  v0:=Tryd.zeroValue0
  t3:=Tryd.underlying3
  a3:=Tryd.isAgg3
  z3:=Tryd.sizeOf3
  v3:=Tryd.zeroValue3
  t4:=Tryd.underlying4
  a4:=Tryd.isAgg4
  z4:=Tryd.sizeOf4
  v4:=Tryd.zeroValue4
  t5:=Tryd.underlying5
  a5:=Tryd.isAgg5
  z5:=Tryd.sizeOf5
  v5:=Tryd.zeroValue5
  t9:=Tryd.underlying9
  a9:=Tryd.isAgg9
  z9:=Tryd.sizeOf9
  v9:=Tryd.zeroValue9
  t21:=Tryd.underlying21
  a21:=Tryd.isAgg21
  z21:=Tryd.sizeOf21
  v21:=Tryd.zeroValue21
  t46:=Tryd.underlying83
  a46:=Tryd.isAgg83
  z46:=Tryd.sizeOf83
  v46:=Tryd.zeroValue83
  t105:=Tryd.underlying93
  a105:=Tryd.isAgg93
  z105:=Tryd.sizeOf93
  v105:=Tryd.zeroValue93
  t116:=Tryd.underlying87
  a116:=Tryd.isAgg87
  z116:=Tryd.sizeOf87
  t117:=Tryd.underlying88
  a117:=Tryd.isAgg88
  z117:=Tryd.sizeOf88
  v117:=Tryd.zeroValue88
  t119:=Tryd.underlying97
  a119:=Tryd.isAgg97
  z119:=Tryd.sizeOf97
  t124:=Tryd.underlying91
  a124:=Tryd.isAgg91
  z124:=Tryd.sizeOf91
  v124:=Tryd.zeroValue91
  t138:=Tryd.underlying99
  a138:=Tryd.isAgg99
  z138:=Tryd.sizeOf99
  v138:=Tryd.zeroValue99
  t139:=Tryd.underlying100
  a139:=Tryd.isAgg100
  z139:=Tryd.sizeOf100
  v139:=Tryd.zeroValue100
  g3:=by kernel_rfl
  g4:=by kernel_rfl }
open Go.RowKit in
/-- strings.Trim at an ASCII cutset. -/
theorem Tryd.strings_Trim (s cutset:ByteArray) (w:World) (hs:s.size≤9223372036854775807) (hcs:cutset.size<4294967281) (hascii:∀ (j:Nat) b,cutset.data.toList[j]? = some b→b.toNat<128) :
    Calls Tryd.prog 53 #[.string s,.string cutset] w fun e w'=>e=.returned (.string ⟨(Lib.trimS s.data.toList cutset.data.toList).toArray⟩)∧Below w.heap.size w w':=Any.strings_Trim_laid Tryd.lays160s (by kernel_rfl) s cutset w hs hcs hascii
end Go.Proofs.YteljhhgffmpgnaaDoor.Shelf
