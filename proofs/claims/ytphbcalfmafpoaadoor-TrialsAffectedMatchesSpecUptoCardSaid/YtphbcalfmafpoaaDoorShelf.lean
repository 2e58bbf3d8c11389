/- Contracts of the shelf, laid at this program. -/
import Derived.Shelf.Small.Strs
import Derived.Shelf.Strings.Search1
import Derived.Shelf.Strings.Search2
import Derived.Shelf.Strings.Search3
import Derived.Shelf.Strings.Count
import Derived.Shelf.LaysM
import Derived.Shelf.Strings.Shaped
import Derived.Shelf.Strings.Split
import Derived.Shelf.Unicode.DecodeSlow
import Derived.Test.YtphbcalfmafpoaaDoorProg
namespace Go.Proofs.YtphbcalfmafpoaaDoor.Shelf
open Go.Proofs Go.RowKit
open Go.Shelf
def Tryd.lays137_ren:Go.Shelf.Ren:=⟨fun | 137=>46 | 217=>51 | 266=>56 | n=>n,fun | 9=>9 | 5=>5 | 3=>3 | n=>n,fun | n=>n⟩
theorem Tryd.lays137:Go.Proofs.Lays.n137 Tryd.prog Tryd.lays137_ren:={
  mixed:=by kernel_rfl
  f137:=Tryd.func46.trans (congrArg some (by kernel_rfl))
  f217:=Tryd.func51.trans (congrArg some (by kernel_rfl))
  f266:=Tryd.func56.trans (congrArg some (by kernel_rfl))
  t3:=Tryd.underlying3
  a3:=Tryd.isAgg3
  z3:=Tryd.sizeOf3
  v3:=Tryd.zeroValue3
  t5:=Tryd.underlying5
  a5:=Tryd.isAgg5
  z5:=Tryd.sizeOf5
  v5:=Tryd.zeroValue5
  t9:=Tryd.underlying9
  a9:=Tryd.isAgg9
  z9:=Tryd.sizeOf9
  v9:=Tryd.zeroValue9 }
open Go.RowKit in
/-- strings.IndexByte: "IndexByte returns the index of the first instance of c in s, or -1 if c is not present in s.": IT RETURNS 'Lib.indexByte s c'; the world is as it was. (LAID: no walk: one application.) -/
theorem Tryd.strings_IndexByte (s:ByteArray) (c:Int) (w:World) :
    Calls Tryd.prog 46 #[.string s,.int .u8 c] w fun e w'=>e=.returned (.int .i64 (Lib.indexByte s.data.toList c.toNat.toUInt8))∧w'=w:=Any.strings_IndexByte Tryd.lays137 s c w
def Tryd.lays146_ren:Go.Shelf.Ren:=⟨fun | 146=>35 | 221=>43 | 268=>48 | 138=>49 | 143=>50 | 195=>52 | 197=>53 | 218=>54 | 219=>55 | 260=>57 | 217=>51 | 225=>58 | 224=>59 | 267=>60 | 266=>56 | 314=>61 | n=>n,fun | 9=>9 | 31=>28 | 3=>3 | 4=>4 | 0=>0 | 105=>71 | 21=>21 | 5=>5 | 46=>63 | 119=>74 | 139=>77 | 138=>76 | 146=>79 | 51=>78 | n=>n,fun | 1=>0 | 3=>1 | 4=>2 | n=>n⟩
theorem Tryd.lays146:Go.Proofs.Lays.n146 Tryd.prog Tryd.lays146_ren:={
  mixed:=by kernel_rfl
  f138:=Tryd.func49.trans (congrArg some (by kernel_rfl))
  f143:=Tryd.func50.trans (congrArg some (by kernel_rfl))
  f146:=Tryd.func35.trans (congrArg some (by kernel_rfl))
  f195:=Tryd.func52.trans (congrArg some (by kernel_rfl))
  f197:=Tryd.func53.trans (congrArg some (by kernel_rfl))
  f217:=Tryd.func51.trans (congrArg some (by kernel_rfl))
  f218:=Tryd.func54.trans (congrArg some (by kernel_rfl))
  f219:=Tryd.func55.trans (congrArg some (by kernel_rfl))
  f221:=Tryd.func43.trans (congrArg some (by kernel_rfl))
  f224:=Tryd.func59.trans (congrArg some (by kernel_rfl))
  f225:=Tryd.func58.trans (congrArg some (by kernel_rfl))
  f260:=Tryd.func57.trans (congrArg some (by kernel_rfl))
  f266:=Tryd.func56.trans (congrArg some (by kernel_rfl))
  f267:=Tryd.func60.trans (congrArg some (by kernel_rfl))
  f268:=Tryd.func48.trans (congrArg some (by kernel_rfl))
  f314:=Tryd.func61.trans (congrArg some (by kernel_rfl))
  t0:=Tryd.underlying0
  a0:=Tryd.isAgg0
  z0:=Tryd.sizeOf0
  v0:=Tryd.zeroValue0
  t3:=Tryd.underlying3
  a3:=Tryd.isAgg3
  z3:=Tryd.sizeOf3
  v3:=Tryd.zeroValue3
  t4:=Tryd.underlying4
  a4:=Tryd.isAgg4
  z4:=Tryd.sizeOf4
  v4:=Tryd.zeroValue4
  t5:=Tryd.underlying5
  a5:=Tryd.isAgg5
  z5:=Tryd.sizeOf5
  v5:=Tryd.zeroValue5
  t9:=Tryd.underlying9
  a9:=Tryd.isAgg9
  z9:=Tryd.sizeOf9
  v9:=Tryd.zeroValue9
  t21:=Tryd.underlying21
  a21:=Tryd.isAgg21
  z21:=Tryd.sizeOf21
  v21:=Tryd.zeroValue21
  t31:=Tryd.underlying28
  a31:=Tryd.isAgg28
  z31:=Tryd.sizeOf28
  v31:=Tryd.zeroValue28
  t46:=Tryd.underlying63
  a46:=Tryd.isAgg63
  z46:=Tryd.sizeOf63
  v46:=Tryd.zeroValue63
  t51:=Tryd.underlying78
  a51:=Tryd.isAgg78
  z51:=Tryd.sizeOf78
  v51:=Tryd.zeroValue78
  t105:=Tryd.underlying71
  a105:=Tryd.isAgg71
  z105:=Tryd.sizeOf71
  v105:=Tryd.zeroValue71
  t119:=Tryd.underlying74
  a119:=Tryd.isAgg74
  z119:=Tryd.sizeOf74
  t138:=Tryd.underlying76
  a138:=Tryd.isAgg76
  z138:=Tryd.sizeOf76
  v138:=Tryd.zeroValue76
  t139:=Tryd.underlying77
  a139:=Tryd.isAgg77
  z139:=Tryd.sizeOf77
  v139:=Tryd.zeroValue77
  t146:=Tryd.underlying79
  a146:=Tryd.isAgg79
  z146:=Tryd.sizeOf79
  v146:=Tryd.zeroValue79
  g1:=by kernel_rfl
  g3:=by kernel_rfl
  g4:=by kernel_rfl }
open Go.RowKit Go.Lib in
/-- strings.Split. (LAID: no walk: one application.) -/
theorem Tryd.strings_Split (s sep:ByteArray) (m:Int) (w:World) (hs:s.size<4294967281) (hm:w.cell? ⟨0,0,none⟩=some (.int .i64 m)) (h1:1≤sep.size) :
    Calls Tryd.prog 35 #[.string s,.string sep] w fun e w' =>
      e=.returned (.slice (some ⟨w.heap.size,0,none⟩) (Lib.countB s sep+1) (Lib.countB s sep+1))∧w'=w.alloc (.cells ((Lib.splitB sep 0 (Lib.countB s sep) s).map Value.string).toArray 9):=Any.strings_Split Tryd.lays146 (by kernel_rfl) s sep m w hs hm h1
end Go.Proofs.YtphbcalfmafpoaaDoor.Shelf
