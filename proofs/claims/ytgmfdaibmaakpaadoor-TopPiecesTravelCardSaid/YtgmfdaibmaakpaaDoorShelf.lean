/- Contracts of the shelf, laid at this program. -/
import Derived.Shelf.Strings.Trim
import Derived.Shelf.Small.Utf8
import Derived.Shelf.Small.Strs
import Derived.Shelf.Strings.Search1
import Derived.Shelf.Unicode.Decode
import Derived.Shelf.Strings.Runes
import Derived.Shelf.Strings.AsciiSet
import Derived.Shelf.Unicode.DecodeSlow
import Derived.Shelf.Unicode.DecodeAny
import Derived.Shelf.Unicode.DecodeLast
import Derived.Shelf.Strings.SlTrimAscii
import Derived.Test.YtgmfdaibmaakpaaDoorProg
namespace Go.Proofs.YtgmfdaibmaakpaaDoor.Shelf
open Go.Proofs Go.RowKit
open Go.Shelf
def Tryd.lays160s_ren:Go.Shelf.Ren:=⟨fun | 160=>26 | 232=>28 | 231=>27 | 227=>29 | 234=>31 | 233=>30 | 236=>33 | 235=>32 | 228=>34 | 271=>37 | 151=>36 | 197=>35 | 120=>40 | 152=>39 | 260=>38 | 137=>41 | 119=>42 | 224=>43 | 225=>44 | 217=>45 | 266=>46 | n=>n,fun | 9=>9 | 4=>4 | 3=>3 | 5=>5 | 117=>69 | 116=>68 | 0=>0 | 124=>72 | 21=>21 | 105=>74 | 46=>53 | 119=>78 | 139=>81 | 138=>80 | n=>n,fun | 3=>0 | 4=>1 | n=>n⟩
theorem Tryd.lays160s:Go.Proofs.Lays.n160 Tryd.prog Tryd.lays160s_ren:={
  mixed:=by kernel_rfl
  f119:=Tryd.func42.trans (congrArg some (by kernel_rfl))
  f120:=Tryd.func40.trans (congrArg some (by kernel_rfl))
  f137:=Tryd.func41.trans (congrArg some (by kernel_rfl))
  f151:=Tryd.func36.trans (congrArg some (by kernel_rfl))
  f152:=Tryd.func39.trans (congrArg some (by kernel_rfl))
  f160:=Tryd.func26.trans (congrArg some (by kernel_rfl))
  f197:=Tryd.func35.trans (congrArg some (by kernel_rfl))
  f217:=Tryd.func45.trans (congrArg some (by kernel_rfl))
  f224:=Tryd.func43.trans (congrArg some (by kernel_rfl))
  f225:=Tryd.func44.trans (congrArg some (by kernel_rfl))
  f227:=Tryd.func29.trans (congrArg some (by kernel_rfl))
  f228:=Tryd.func34.trans (congrArg some (by kernel_rfl))
  f231:=Tryd.func27.trans (congrArg some (by kernel_rfl))
  f232:=Tryd.func28.trans (congrArg some (by kernel_rfl))
  f233:=Tryd.func30.trans (congrArg some (by kernel_rfl))
  f234:=Tryd.func31.trans (congrArg some (by kernel_rfl))
  f235:=Tryd.func32.trans (congrArg some (by kernel_rfl))
  f236:=Tryd.func33.trans (congrArg some (by kernel_rfl))
  f260:=Tryd.func38.trans (congrArg some (by kernel_rfl))
  f266:=Tryd.func46.trans (congrArg some (by kernel_rfl))
  f271:=Tryd.func37.trans (congrArg some (by kernel_rfl))
  t0:=Tryd.underlying0
  a0:=Tryd.isAgg0
  z0:=Tryd.sizeOf0
  v0:=Tryd.zeroValue0
  t3:=Tryd.underlying3
  a3:=Tryd.isAgg3
  z3:=Tryd.sizeOf3
  v3:=Tryd.zeroValue3
  t4:=Tryd.underlying4
  a4:=Tryd.isAgg4
  z4:=Tryd.sizeOf4
  v4:=Tryd.zeroValue4
  t5:=Tryd.underlying5
  a5:=Tryd.isAgg5
  z5:=Tryd.sizeOf5
  v5:=Tryd.zeroValue5
  t9:=Tryd.underlying9
  a9:=Tryd.isAgg9
  z9:=Tryd.sizeOf9
  v9:=Tryd.zeroValue9
  t21:=Tryd.underlying21
  a21:=Tryd.isAgg21
  z21:=Tryd.sizeOf21
  v21:=Tryd.zeroValue21
  t46:=Tryd.underlying53
  a46:=Tryd.isAgg53
  z46:=Tryd.sizeOf53
  v46:=Tryd.zeroValue53
  t105:=Tryd.underlying74
  a105:=Tryd.isAgg74
  z105:=Tryd.sizeOf74
  v105:=Tryd.zeroValue74
  t116:=Tryd.underlying68
  a116:=Tryd.isAgg68
  z116:=Tryd.sizeOf68
  t117:=Tryd.underlying69
  a117:=Tryd.isAgg69
  z117:=Tryd.sizeOf69
  v117:=Tryd.zeroValue69
  t119:=Tryd.underlying78
  a119:=Tryd.isAgg78
  z119:=Tryd.sizeOf78
  t124:=Tryd.underlying72
  a124:=Tryd.isAgg72
  z124:=Tryd.sizeOf72
  v124:=Tryd.zeroValue72
  t138:=Tryd.underlying80
  a138:=Tryd.isAgg80
  z138:=Tryd.sizeOf80
  v138:=Tryd.zeroValue80
  t139:=Tryd.underlying81
  a139:=Tryd.isAgg81
  z139:=Tryd.sizeOf81
  v139:=Tryd.zeroValue81
  g3:=by kernel_rfl
  g4:=by kernel_rfl }
open Go.RowKit in
/-- strings.Trim at an ASCII cutset. -/
theorem Tryd.strings_Trim (s cutset:ByteArray) (w:World) (hs:s.size≤9223372036854775807) (hcs:cutset.size<4294967281) (hascii:∀ (j:Nat) b,cutset.data.toList[j]? = some b→b.toNat<128) :
    Calls Tryd.prog 26 #[.string s,.string cutset] w fun e w'=>e=.returned (.string ⟨(Lib.trimS s.data.toList cutset.data.toList).toArray⟩)∧Below w.heap.size w w':=Any.strings_Trim_laid Tryd.lays160s (by kernel_rfl) s cutset w hs hcs hascii
end Go.Proofs.YtgmfdaibmaakpaaDoor.Shelf
