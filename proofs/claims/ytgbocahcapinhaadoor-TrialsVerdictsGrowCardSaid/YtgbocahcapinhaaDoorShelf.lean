/- Contracts of the shelf, laid at this program. -/
import Derived.Shelf.Strings.Trim
import Derived.Shelf.Small.Utf8
import Derived.Shelf.Small.Strs
import Derived.Shelf.Strings.Search1
import Derived.Shelf.Strings.Search2
import Derived.Shelf.Strings.Search3
import Derived.Shelf.Strings.Count
import Derived.Shelf.LaysM
import Derived.Shelf.Strings.Shaped
import Derived.Shelf.Strings.Split
import Derived.Shelf.Strings.Runes
import Derived.Shelf.Strings.AsciiSet
import Derived.Shelf.Unicode.DecodeSlow
import Derived.Shelf.Strings.SlTrimAscii
import Derived.Test.YtgbocahcapinhaaDoorProg
namespace Go.Proofs.YtgbocahcapinhaaDoor.Shelf
open Go.Proofs Go.RowKit
open Go.Shelf
def Tryd.lays137_ren:Go.Shelf.Ren:=⟨fun | 137=>39 | 217=>47 | 266=>54 | n=>n,fun | 9=>9 | 5=>5 | 3=>3 | n=>n,fun | n=>n⟩
theorem Tryd.lays137:Go.Proofs.Lays.n137 Tryd.prog Tryd.lays137_ren:={
  mixed:=by kernel_rfl
  f137:=Tryd.func39.trans (congrArg some (by kernel_rfl))
  f217:=Tryd.func47.trans (congrArg some (by kernel_rfl))
  f266:=Tryd.func54.trans (congrArg some (by kernel_rfl))
  t3:=Tryd.underlying3
  a3:=Tryd.isAgg3
  z3:=Tryd.sizeOf3
  v3:=Tryd.zeroValue3
  t5:=Tryd.underlying5
  a5:=Tryd.isAgg5
  z5:=Tryd.sizeOf5
  v5:=Tryd.zeroValue5
  t9:=Tryd.underlying9
  a9:=Tryd.isAgg9
  z9:=Tryd.sizeOf9
  v9:=Tryd.zeroValue9 }
open Go.RowKit in
/-- strings.IndexByte: "IndexByte returns the index of the first instance of c in s, or -1 if c is not present in s.": IT RETURNS 'Lib.indexByte s c'; the world is as it was. (LAID: no walk: one application.) -/
theorem Tryd.strings_IndexByte (s:ByteArray) (c:Int) (w:World) :
    Calls Tryd.prog 39 #[.string s,.int .u8 c] w fun e w'=>e=.returned (.int .i64 (Lib.indexByte s.data.toList c.toNat.toUInt8))∧w'=w:=Any.strings_IndexByte Tryd.lays137 s c w
def Tryd.lays146_ren:Go.Shelf.Ren:=⟨fun | 146=>26 | 221=>30 | 268=>40 | 138=>41 | 143=>42 | 195=>48 | 197=>44 | 218=>49 | 219=>50 | 260=>51 | 217=>47 | 225=>55 | 224=>56 | 267=>57 | 266=>54 | 314=>59 | n=>n,fun | 9=>9 | 31=>49 | 3=>3 | 4=>4 | 0=>0 | 105=>64 | 21=>21 | 5=>5 | 46=>70 | 119=>71 | 139=>74 | 138=>73 | 146=>77 | 51=>76 | n=>n,fun | 1=>0 | 3=>1 | 4=>2 | n=>n⟩
theorem Tryd.lays146:Go.Proofs.Lays.n146 Tryd.prog Tryd.lays146_ren:={
  mixed:=by kernel_rfl
  f138:=Tryd.func41.trans (congrArg some (by kernel_rfl))
  f143:=Tryd.func42.trans (congrArg some (by kernel_rfl))
  f146:=Tryd.func26.trans (congrArg some (by kernel_rfl))
  f195:=Tryd.func48.trans (congrArg some (by kernel_rfl))
  f197:=Tryd.func44.trans (congrArg some (by kernel_rfl))
  f217:=Tryd.func47.trans (congrArg some (by kernel_rfl))
  f218:=Tryd.func49.trans (congrArg some (by kernel_rfl))
  f219:=Tryd.func50.trans (congrArg some (by kernel_rfl))
  f221:=Tryd.func30.trans (congrArg some (by kernel_rfl))
  f224:=Tryd.func56.trans (congrArg some (by kernel_rfl))
  f225:=Tryd.func55.trans (congrArg some (by kernel_rfl))
  f260:=Tryd.func51.trans (congrArg some (by kernel_rfl))
  f266:=Tryd.func54.trans (congrArg some (by kernel_rfl))
  f267:=Tryd.func57.trans (congrArg some (by kernel_rfl))
  f268:=Tryd.func40.trans (congrArg some (by kernel_rfl))
  f314:=Tryd.func59.trans (congrArg some (by kernel_rfl))
  t0:=Tryd.underlying0
  a0:=Tryd.isAgg0
  z0:=Tryd.sizeOf0
  v0:=Tryd.zeroValue0
  t3:=Tryd.underlying3
  a3:=Tryd.isAgg3
  z3:=Tryd.sizeOf3
  v3:=Tryd.zeroValue3
  t4:=Tryd.underlying4
  a4:=Tryd.isAgg4
  z4:=Tryd.sizeOf4
  v4:=Tryd.zeroValue4
  t5:=Tryd.underlying5
  a5:=Tryd.isAgg5
  z5:=Tryd.sizeOf5
  v5:=Tryd.zeroValue5
  t9:=Tryd.underlying9
  a9:=Tryd.isAgg9
  z9:=Tryd.sizeOf9
  v9:=Tryd.zeroValue9
  t21:=Tryd.underlying21
  a21:=Tryd.isAgg21
  z21:=Tryd.sizeOf21
  v21:=Tryd.zeroValue21
  t31:=Tryd.underlying49
  a31:=Tryd.isAgg49
  z31:=Tryd.sizeOf49
  v31:=Tryd.zeroValue49
  t46:=Tryd.underlying70
  a46:=Tryd.isAgg70
  z46:=Tryd.sizeOf70
  v46:=Tryd.zeroValue70
  t51:=Tryd.underlying76
  a51:=Tryd.isAgg76
  z51:=Tryd.sizeOf76
  v51:=Tryd.zeroValue76
  t105:=Tryd.underlying64
  a105:=Tryd.isAgg64
  z105:=Tryd.sizeOf64
  v105:=Tryd.zeroValue64
  t119:=Tryd.underlying71
  a119:=Tryd.isAgg71
  z119:=Tryd.sizeOf71
  t138:=Tryd.underlying73
  a138:=Tryd.isAgg73
  z138:=Tryd.sizeOf73
  v138:=Tryd.zeroValue73
  t139:=Tryd.underlying74
  a139:=Tryd.isAgg74
  z139:=Tryd.sizeOf74
  v139:=Tryd.zeroValue74
  t146:=Tryd.underlying77
  a146:=Tryd.isAgg77
  z146:=Tryd.sizeOf77
  v146:=Tryd.zeroValue77
  g1:=by kernel_rfl
  g3:=by kernel_rfl
  g4:=by kernel_rfl }
open Go.RowKit Go.Lib in
/-- strings.Split. (LAID: no walk: one application.) -/
theorem Tryd.strings_Split (s sep:ByteArray) (m:Int) (w:World) (hs:s.size<4294967281) (hm:w.cell? ⟨0,0,none⟩=some (.int .i64 m)) (h1:1≤sep.size) :
    Calls Tryd.prog 26 #[.string s,.string sep] w fun e w' =>
      e=.returned (.slice (some ⟨w.heap.size,0,none⟩) (Lib.countB s sep+1) (Lib.countB s sep+1))∧w'=w.alloc (.cells ((Lib.splitB sep 0 (Lib.countB s sep) s).map Value.string).toArray 9):=Any.strings_Split Tryd.lays146 (by kernel_rfl) s sep m w hs hm h1
def Tryd.lays160s_ren:Go.Shelf.Ren:=⟨fun | 160=>28 | 232=>33 | 231=>32 | 227=>34 | 234=>36 | 233=>35 | 236=>38 | 235=>37 | 228=>43 | 271=>46 | 151=>45 | 197=>44 | 120=>53 | 152=>52 | 260=>51 | 137=>39 | 119=>58 | 224=>56 | 225=>55 | 217=>47 | 266=>54 | n=>n,fun | 9=>9 | 4=>4 | 3=>3 | 5=>5 | 117=>57 | 116=>56 | 0=>0 | 124=>60 | 21=>21 | 105=>64 | 46=>70 | 119=>71 | 139=>74 | 138=>73 | n=>n,fun | 3=>1 | 4=>2 | n=>n⟩
theorem Tryd.lays160s:Go.Proofs.Lays.n160 Tryd.prog Tryd.lays160s_ren:={
  mixed:=by kernel_rfl
  f119:=Tryd.func58.trans (congrArg some (by kernel_rfl))
  f120:=Tryd.func53.trans (congrArg some (by kernel_rfl))
  f137:=Tryd.func39.trans (congrArg some (by kernel_rfl))
  f151:=Tryd.func45.trans (congrArg some (by kernel_rfl))
  f152:=Tryd.func52.trans (congrArg some (by kernel_rfl))
  f160:=Tryd.func28.trans (congrArg some (by kernel_rfl))
  f197:=Tryd.func44.trans (congrArg some (by kernel_rfl))
  f217:=Tryd.func47.trans (congrArg some (by kernel_rfl))
  f224:=Tryd.func56.trans (congrArg some (by kernel_rfl))
  f225:=Tryd.func55.trans (congrArg some (by kernel_rfl))
  f227:=Tryd.func34.trans (congrArg some (by kernel_rfl))
  f228:=Tryd.func43.trans (congrArg some (by kernel_rfl))
  f231:=Tryd.func32.trans (congrArg some (by kernel_rfl))
  f232:=Tryd.func33.trans (congrArg some (by kernel_rfl))
  f233:=Tryd.func35.trans (congrArg some (by kernel_rfl))
  f234:=Tryd.func36.trans (congrArg some (by kernel_rfl))
  f235:=Tryd.func37.trans (congrArg some (by kernel_rfl))
  f236:=Tryd.func38.trans (congrArg some (by kernel_rfl))
  f260:=Tryd.func51.trans (congrArg some (by kernel_rfl))
  f266:=Tryd.func54.trans (congrArg some (by kernel_rfl))
  f271:=Tryd.func46.trans (congrArg some (by kernel_rfl))
  t0:=Tryd.underlying0
  a0:=Tryd.isAgg0
  z0:=Tryd.sizeOf0
  v0:=Tryd.zeroValue0
  t3:=Tryd.underlying3
  a3:=Tryd.isAgg3
  z3:=Tryd.sizeOf3
  v3:=Tryd.zeroValue3
  t4:=Tryd.underlying4
  a4:=Tryd.isAgg4
  z4:=Tryd.sizeOf4
  v4:=Tryd.zeroValue4
  t5:=Tryd.underlying5
  a5:=Tryd.isAgg5
  z5:=Tryd.sizeOf5
  v5:=Tryd.zeroValue5
  t9:=Tryd.underlying9
  a9:=Tryd.isAgg9
  z9:=Tryd.sizeOf9
  v9:=Tryd.zeroValue9
  t21:=Tryd.underlying21
  a21:=Tryd.isAgg21
  z21:=Tryd.sizeOf21
  v21:=Tryd.zeroValue21
  t46:=Tryd.underlying70
  a46:=Tryd.isAgg70
  z46:=Tryd.sizeOf70
  v46:=Tryd.zeroValue70
  t105:=Tryd.underlying64
  a105:=Tryd.isAgg64
  z105:=Tryd.sizeOf64
  v105:=Tryd.zeroValue64
  t116:=Tryd.underlying56
  a116:=Tryd.isAgg56
  z116:=Tryd.sizeOf56
  t117:=Tryd.underlying57
  a117:=Tryd.isAgg57
  z117:=Tryd.sizeOf57
  v117:=Tryd.zeroValue57
  t119:=Tryd.underlying71
  a119:=Tryd.isAgg71
  z119:=Tryd.sizeOf71
  t124:=Tryd.underlying60
  a124:=Tryd.isAgg60
  z124:=Tryd.sizeOf60
  v124:=Tryd.zeroValue60
  t138:=Tryd.underlying73
  a138:=Tryd.isAgg73
  z138:=Tryd.sizeOf73
  v138:=Tryd.zeroValue73
  t139:=Tryd.underlying74
  a139:=Tryd.isAgg74
  z139:=Tryd.sizeOf74
  v139:=Tryd.zeroValue74
  g3:=by kernel_rfl
  g4:=by kernel_rfl }
open Go.RowKit in
/-- strings.Trim at an ASCII cutset. -/
theorem Tryd.strings_Trim (s cutset:ByteArray) (w:World) (hs:s.size≤9223372036854775807) (hcs:cutset.size<4294967281) (hascii:∀ (j:Nat) b,cutset.data.toList[j]? = some b→b.toNat<128) :
    Calls Tryd.prog 28 #[.string s,.string cutset] w fun e w'=>e=.returned (.string ⟨(Lib.trimS s.data.toList cutset.data.toList).toArray⟩)∧Below w.heap.size w w':=Any.strings_Trim_laid Tryd.lays160s (by kernel_rfl) s cutset w hs hcs hascii
end Go.Proofs.YtgbocahcapinhaaDoor.Shelf
