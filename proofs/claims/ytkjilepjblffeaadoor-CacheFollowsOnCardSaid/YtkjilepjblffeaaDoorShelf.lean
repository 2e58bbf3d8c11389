/- Contracts of the shelf, laid at this program. -/
import Derived.Shelf.Strings.Trim
import Derived.Shelf.Small.Utf8
import Derived.Shelf.Small.Strs
import Derived.Shelf.Strings.Search1
import Derived.Shelf.Strings.Search2
import Derived.Shelf.Strings.Search3
import Derived.Shelf.Strings.Cut
import Derived.Shelf.Strings.Count
import Derived.Shelf.LaysM
import Derived.Shelf.Strings.Shaped
import Derived.Shelf.Strings.Runes
import Derived.Shelf.Strings.AsciiSet
import Derived.Shelf.Unicode.DecodeSlow
import Derived.Shelf.Strings.SlTrimAscii
import Derived.Test.YtkjilepjblffeaaDoorProg
namespace Go.Proofs.YtkjilepjblffeaaDoor.Shelf
open Go.Proofs Go.RowKit
open Go.Shelf
def Tryd.lays106_ren:Go.Shelf.Ren:=⟨fun | 106=>114 | 213=>146 | 265=>163 | n=>n,fun | 9=>9 | 3=>3 | n=>n,fun | n=>n⟩
theorem Tryd.lays106:Go.Proofs.Lays.n106 Tryd.prog Tryd.lays106_ren:={
  mixed:=by kernel_rfl
  f106:=Tryd.func114.trans (congrArg some (by kernel_rfl))
  f213:=Tryd.func146.trans (congrArg some (by kernel_rfl))
  f265:=Tryd.func163.trans (congrArg some (by kernel_rfl))
  t3:=Tryd.underlying3
  a3:=Tryd.isAgg3
  z3:=Tryd.sizeOf3
  v3:=Tryd.zeroValue3
  t9:=Tryd.underlying9
  a9:=Tryd.isAgg9
  z9:=Tryd.sizeOf9
  v9:=Tryd.zeroValue9 }
open Go.RowKit in
/-- strings.Compare: "Compare returns an integer comparing two strings lexicographically. The result will be 0 if a == b, -1 if a < b, and +1 if a > b.": IT RETURNS 'Lib.compareBytes a b'; the world is as it was. (LAID: no walk: one application.) -/
theorem Tryd.strings_Compare (a b:ByteArray) (w:World) :
    Calls Tryd.prog 114 #[.string a,.string b] w fun e w'=>e=.returned (.int .i64 (Lib.compareBytes a.data.toList b.data.toList))∧w'=w:=Any.strings_Compare Tryd.lays106 a b w
def Tryd.lays160s_ren:Go.Shelf.Ren:=⟨fun | 160=>106 | 232=>140 | 231=>139 | 227=>141 | 234=>143 | 233=>142 | 236=>145 | 235=>144 | 228=>159 | 271=>162 | 151=>161 | 197=>160 | 120=>184 | 152=>183 | 260=>182 | 137=>200 | 119=>201 | 224=>175 | 225=>174 | 217=>173 | 266=>191 | n=>n,fun | 9=>9 | 4=>4 | 3=>3 | 5=>5 | 117=>174 | 116=>173 | 0=>0 | 124=>177 | 21=>21 | 105=>188 | 46=>178 | 119=>221 | 139=>224 | 138=>223 | n=>n,fun | 3=>2 | 4=>3 | n=>n⟩
theorem Tryd.lays160s:Go.Proofs.Lays.n160 Tryd.prog Tryd.lays160s_ren:={
  mixed:=by kernel_rfl
  f119:=Tryd.func201.trans (congrArg some (by kernel_rfl))
  f120:=Tryd.func184.trans (congrArg some (by kernel_rfl))
  f137:=Tryd.func200.trans (congrArg some (by kernel_rfl))
  f151:=Tryd.func161.trans (congrArg some (by kernel_rfl))
  f152:=Tryd.func183.trans (congrArg some (by kernel_rfl))
  f160:=Tryd.func106.trans (congrArg some (by kernel_rfl))
  f197:=Tryd.func160.trans (congrArg some (by kernel_rfl))
  f217:=Tryd.func173.trans (congrArg some (by kernel_rfl))
  f224:=Tryd.func175.trans (congrArg some (by kernel_rfl))
  f225:=Tryd.func174.trans (congrArg some (by kernel_rfl))
  f227:=Tryd.func141.trans (congrArg some (by kernel_rfl))
  f228:=Tryd.func159.trans (congrArg some (by kernel_rfl))
  f231:=Tryd.func139.trans (congrArg some (by kernel_rfl))
  f232:=Tryd.func140.trans (congrArg some (by kernel_rfl))
  f233:=Tryd.func142.trans (congrArg some (by kernel_rfl))
  f234:=Tryd.func143.trans (congrArg some (by kernel_rfl))
  f235:=Tryd.func144.trans (congrArg some (by kernel_rfl))
  f236:=Tryd.func145.trans (congrArg some (by kernel_rfl))
  f260:=Tryd.func182.trans (congrArg some (by kernel_rfl))
  f266:=Tryd.func191.trans (congrArg some (by kernel_rfl))
  f271:=Tryd.func162.trans (congrArg some (by kernel_rfl))
  t0:=Tryd.underlying0
  a0:=Tryd.isAgg0
  z0:=Tryd.sizeOf0
  v0:=Tryd.zeroValue0
  t3:=Tryd.underlying3
  a3:=Tryd.isAgg3
  z3:=Tryd.sizeOf3
  v3:=Tryd.zeroValue3
  t4:=Tryd.underlying4
  a4:=Tryd.isAgg4
  z4:=Tryd.sizeOf4
  v4:=Tryd.zeroValue4
  t5:=Tryd.underlying5
  a5:=Tryd.isAgg5
  z5:=Tryd.sizeOf5
  v5:=Tryd.zeroValue5
  t9:=Tryd.underlying9
  a9:=Tryd.isAgg9
  z9:=Tryd.sizeOf9
  v9:=Tryd.zeroValue9
  t21:=Tryd.underlying21
  a21:=Tryd.isAgg21
  z21:=Tryd.sizeOf21
  v21:=Tryd.zeroValue21
  t46:=Tryd.underlying178
  a46:=Tryd.isAgg178
  z46:=Tryd.sizeOf178
  v46:=Tryd.zeroValue178
  t105:=Tryd.underlying188
  a105:=Tryd.isAgg188
  z105:=Tryd.sizeOf188
  v105:=Tryd.zeroValue188
  t116:=Tryd.underlying173
  a116:=Tryd.isAgg173
  z116:=Tryd.sizeOf173
  t117:=Tryd.underlying174
  a117:=Tryd.isAgg174
  z117:=Tryd.sizeOf174
  v117:=Tryd.zeroValue174
  t119:=Tryd.underlying221
  a119:=Tryd.isAgg221
  z119:=Tryd.sizeOf221
  t124:=Tryd.underlying177
  a124:=Tryd.isAgg177
  z124:=Tryd.sizeOf177
  v124:=Tryd.zeroValue177
  t138:=Tryd.underlying223
  a138:=Tryd.isAgg223
  z138:=Tryd.sizeOf223
  v138:=Tryd.zeroValue223
  t139:=Tryd.underlying224
  a139:=Tryd.isAgg224
  z139:=Tryd.sizeOf224
  v139:=Tryd.zeroValue224
  g3:=by kernel_rfl
  g4:=by kernel_rfl }
open Go.RowKit in
/-- strings.Trim at an ASCII cutset. -/
theorem Tryd.strings_Trim (s cutset:ByteArray) (w:World) (hs:s.size≤9223372036854775807) (hcs:cutset.size<4294967281) (hascii:∀ (j:Nat) b,cutset.data.toList[j]? = some b→b.toNat<128) :
    Calls Tryd.prog 106 #[.string s,.string cutset] w fun e w'=>e=.returned (.string ⟨(Lib.trimS s.data.toList cutset.data.toList).toArray⟩)∧Below w.heap.size w w':=Any.strings_Trim_laid Tryd.lays160s (by kernel_rfl) s cutset w hs hcs hascii
end Go.Proofs.YtkjilepjblffeaaDoor.Shelf
