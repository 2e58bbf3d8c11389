/- Contracts of the shelf, laid at this program. -/
import Derived.Shelf.Strings.Trim
import Derived.Shelf.Small.Utf8
import Derived.Shelf.Small.Strs
import Derived.Shelf.Utf8.RuneCount
import Derived.Shelf.Strconv.Atoi
import Derived.Shelf.Strconv.Itoa0
import Derived.Shelf.Strconv.Itoa1
import Derived.Shelf.LaysM
import Derived.Shelf.Strconv.Itoa2
import Derived.Shelf.Strconv.Itoa3
import Derived.Shelf.Strings.Search1
import Derived.Shelf.Strings.Search2
import Derived.Shelf.Strings.Search3
import Derived.Shelf.Strings.Cut
import Derived.Shelf.Strings.Count
import Derived.Shelf.Strings.Shaped
import Derived.Shelf.GgClosure.StringsIndexFunc
import Derived.Ground.GgwProg
import Derived.Shelf.GgClosure.StringsIndexFuncTop
import Derived.Shelf.GgClosure.StringsRunes
import Derived.Shelf.Strings.Split
import Derived.Shelf.Strings.SplitShaped
import Derived.Shelf.Unicode.Decode
import Derived.Shelf.Strings.Runes
import Derived.Shelf.Strings.RuneCount
import Derived.Shelf.Strings.AsciiSet
import Derived.Shelf.Strings.Explode
import Derived.Shelf.Unicode.DecodeSlow
import Derived.Shelf.Unicode.DecodeAny
import Derived.Shelf.Unicode.DecodeLast
import Derived.Shelf.Strings.SlTrimAscii
import Derived.Test.YtikhlmaaokoehaaDoorProg
namespace Go.Proofs.YtikhlmaaokoehaaDoor.Shelf
open Go.Proofs Go.RowKit
open Go.Shelf
def Tryd.lays137_ren:Go.Shelf.Ren:=⟨fun | 137=>55 | 217=>37 | 266=>56 | n=>n,fun | 9=>9 | 5=>5 | 3=>3 | n=>n,fun | n=>n⟩
theorem Tryd.lays137:Go.Proofs.Lays.n137 Tryd.prog Tryd.lays137_ren:={
  mixed:=by kernel_rfl
  f137:=Tryd.func55.trans (congrArg some (by kernel_rfl))
  f217:=Tryd.func37.trans (congrArg some (by kernel_rfl))
  f266:=Tryd.func56.trans (congrArg some (by kernel_rfl))
  t3:=Tryd.underlying3
  a3:=Tryd.isAgg3
  z3:=Tryd.sizeOf3
  v3:=Tryd.zeroValue3
  t5:=Tryd.underlying5
  a5:=Tryd.isAgg5
  z5:=Tryd.sizeOf5
  v5:=Tryd.zeroValue5
  t9:=Tryd.underlying9
  a9:=Tryd.isAgg9
  z9:=Tryd.sizeOf9
  v9:=Tryd.zeroValue9 }
open Go.RowKit in
/-- strings.IndexByte: "IndexByte returns the index of the first instance of c in s, or -1 if c is not present in s.": IT RETURNS 'Lib.indexByte s c'; the world is as it was. (LAID: no walk: one application.) -/
theorem Tryd.strings_IndexByte (s:ByteArray) (c:Int) (w:World) :
    Calls Tryd.prog 55 #[.string s,.int .u8 c] w fun e w'=>e=.returned (.int .i64 (Lib.indexByte s.data.toList c.toNat.toUInt8))∧w'=w:=Any.strings_IndexByte Tryd.lays137 s c w
def Tryd.lays172_ren:Go.Shelf.Ren:=⟨fun | 172=>34 | 244=>52 | 245=>53 | 247=>65 | 279=>66 | 280=>67 | 281=>68 | 282=>69 | 287=>73 | 316=>74 | 171=>76 | 205=>75 | 321=>78 | 322=>79 | 243=>80 | 246=>81 | 283=>82 | 284=>83 | 285=>84 | 286=>85 | 129=>87 | 317=>86 | 318=>88 | 319=>89 | 320=>90 | 337=>91 | 338=>92 | n=>n,fun | 9=>9 | 3=>3 | 75=>52 | 76=>53 | 4=>4 | 5=>5 | 167=>77 | 37=>78 | 0=>0 | 85=>79 | 2=>2 | 168=>81 | 53=>85 | 175=>86 | 46=>57 | 210=>90 | 127=>98 | 145=>101 | 143=>99 | 21=>21 | 171=>103 | 173=>106 | 212=>109 | 51=>69 | 20=>20 | 213=>110 | 232=>114 | 233=>115 | 80=>116 | n=>n,fun | 15=>1 | 16=>2 | 17=>5 | 18=>6 | 19=>7 | n=>n⟩
theorem Tryd.lays172:Go.Proofs.Lays.n172 Tryd.prog Tryd.lays172_ren:={
  mixed:=by kernel_rfl
  f129:=Tryd.func87.trans (congrArg some (by kernel_rfl))
  f171:=Tryd.func76.trans (congrArg some (by kernel_rfl))
  f172:=Tryd.func34.trans (congrArg some (by kernel_rfl))
  f205:=Tryd.func75.trans (congrArg some (by kernel_rfl))
  f243:=Tryd.func80.trans (congrArg some (by kernel_rfl))
  f244:=Tryd.func52.trans (congrArg some (by kernel_rfl))
  f245:=Tryd.func53.trans (congrArg some (by kernel_rfl))
  f246:=Tryd.func81.trans (congrArg some (by kernel_rfl))
  f247:=Tryd.func65.trans (congrArg some (by kernel_rfl))
  f279:=Tryd.func66.trans (congrArg some (by kernel_rfl))
  f280:=Tryd.func67.trans (congrArg some (by kernel_rfl))
  f281:=Tryd.func68.trans (congrArg some (by kernel_rfl))
  f282:=Tryd.func69.trans (congrArg some (by kernel_rfl))
  f283:=Tryd.func82.trans (congrArg some (by kernel_rfl))
  f284:=Tryd.func83.trans (congrArg some (by kernel_rfl))
  f285:=Tryd.func84.trans (congrArg some (by kernel_rfl))
  f286:=Tryd.func85.trans (congrArg some (by kernel_rfl))
  f287:=Tryd.func73.trans (congrArg some (by kernel_rfl))
  f316:=Tryd.func74.trans (congrArg some (by kernel_rfl))
  f317:=Tryd.func86.trans (congrArg some (by kernel_rfl))
  f318:=Tryd.func88.trans (congrArg some (by kernel_rfl))
  f319:=Tryd.func89.trans (congrArg some (by kernel_rfl))
  f320:=Tryd.func90.trans (congrArg some (by kernel_rfl))
  f321:=Tryd.func78.trans (congrArg some (by kernel_rfl))
  f322:=Tryd.func79.trans (congrArg some (by kernel_rfl))
  f337:=Tryd.func91.trans (congrArg some (by kernel_rfl))
  f338:=Tryd.func92.trans (congrArg some (by kernel_rfl))
  t0:=Tryd.underlying0
  a0:=Tryd.isAgg0
  z0:=Tryd.sizeOf0
  v0:=Tryd.zeroValue0
  t2:=Tryd.underlying2
  a2:=Tryd.isAgg2
  z2:=Tryd.sizeOf2
  v2:=Tryd.zeroValue2
  t3:=Tryd.underlying3
  a3:=Tryd.isAgg3
  z3:=Tryd.sizeOf3
  v3:=Tryd.zeroValue3
  t4:=Tryd.underlying4
  a4:=Tryd.isAgg4
  z4:=Tryd.sizeOf4
  v4:=Tryd.zeroValue4
  t5:=Tryd.underlying5
  a5:=Tryd.isAgg5
  z5:=Tryd.sizeOf5
  v5:=Tryd.zeroValue5
  t9:=Tryd.underlying9
  a9:=Tryd.isAgg9
  z9:=Tryd.sizeOf9
  v9:=Tryd.zeroValue9
  t20:=Tryd.underlying20
  a20:=Tryd.isAgg20
  z20:=Tryd.sizeOf20
  v20:=Tryd.zeroValue20
  t21:=Tryd.underlying21
  a21:=Tryd.isAgg21
  z21:=Tryd.sizeOf21
  v21:=Tryd.zeroValue21
  t37:=Tryd.underlying78
  a37:=Tryd.isAgg78
  z37:=Tryd.sizeOf78
  v37:=Tryd.zeroValue78
  t46:=Tryd.underlying57
  a46:=Tryd.isAgg57
  z46:=Tryd.sizeOf57
  v46:=Tryd.zeroValue57
  t51:=Tryd.underlying69
  a51:=Tryd.isAgg69
  z51:=Tryd.sizeOf69
  v51:=Tryd.zeroValue69
  t53:=Tryd.underlying85
  a53:=Tryd.isAgg85
  z53:=Tryd.sizeOf85
  v53:=Tryd.zeroValue85
  t75:=Tryd.underlying52
  a75:=Tryd.isAgg52
  z75:=Tryd.sizeOf52
  v75:=Tryd.zeroValue52
  t76:=Tryd.underlying53
  a76:=Tryd.isAgg53
  z76:=Tryd.sizeOf53
  v76:=Tryd.zeroValue53
  t85:=Tryd.underlying79
  a85:=Tryd.isAgg79
  z85:=Tryd.sizeOf79
  v85:=Tryd.zeroValue79
  t127:=Tryd.underlying98
  a127:=Tryd.isAgg98
  z127:=Tryd.sizeOf98
  v127:=Tryd.zeroValue98
  t143:=Tryd.underlying99
  a143:=Tryd.isAgg99
  z143:=Tryd.sizeOf99
  v143:=Tryd.zeroValue99
  t145:=Tryd.underlying101
  a145:=Tryd.isAgg101
  z145:=Tryd.sizeOf101
  v145:=Tryd.zeroValue101
  t167:=Tryd.underlying77
  a167:=Tryd.isAgg77
  z167:=Tryd.sizeOf77
  v167:=Tryd.zeroValue77
  t168:=Tryd.underlying81
  a168:=Tryd.isAgg81
  z168:=Tryd.sizeOf81
  v168:=Tryd.zeroValue81
  t171:=Tryd.underlying103
  a171:=Tryd.isAgg103
  z171:=Tryd.sizeOf103
  v171:=Tryd.zeroValue103
  t173:=Tryd.underlying106
  a173:=Tryd.isAgg106
  z173:=Tryd.sizeOf106
  v173:=Tryd.zeroValue106
  t175:=Tryd.underlying86
  a175:=Tryd.isAgg86
  z175:=Tryd.sizeOf86
  v175:=Tryd.zeroValue86
  t210:=Tryd.underlying90
  a210:=Tryd.isAgg90
  z210:=Tryd.sizeOf90
  v210:=Tryd.zeroValue90
  t212:=Tryd.underlying109
  a212:=Tryd.isAgg109
  z212:=Tryd.sizeOf109
  v212:=Tryd.zeroValue109
  t213:=Tryd.underlying110
  a213:=Tryd.isAgg110
  z213:=Tryd.sizeOf110
  t232:=Tryd.underlying114
  a232:=Tryd.isAgg114
  z232:=Tryd.sizeOf114
  v232:=Tryd.zeroValue114
  t233:=Tryd.underlying115
  a233:=Tryd.isAgg115
  z233:=Tryd.sizeOf115
  v233:=Tryd.zeroValue115
  g15:=by kernel_rfl
  g16:=by kernel_rfl
  g17:=by kernel_rfl
  g18:=by kernel_rfl
  g19:=by kernel_rfl }
open Go.RowKit in
/-- strconv.Atoi: "Atoi is equivalent to ParseInt(s, 10, 0), converted to type int.": AT A DECIMAL NUMERAL OF AT MOST 18 BYTES: its value, and a nil error. The world behind the call: the one new row that the library's '[]byte(s)' lays. (LAID: no walk: one application.) -/
theorem Tryd.strconv_Atoi (s:ByteArray) (n:Int) (hl:s.size≤18) (h:Lib.atoi s.data.toList=some n) (w:World) :
    Calls Tryd.prog 34 #[.string s] w fun e w'=>e=.returned (.tuple #[.int .i64 n,.nilIface])∧∃ t,w'=Lib.bytesWorld w 5 t:=Any.strconv_Atoi Tryd.lays172 s n hl h w
def Tryd.lays219_ren:Go.Shelf.Ren:=⟨fun | 219=>28 | 217=>37 | 225=>38 | 224=>39 | 267=>40 | 266=>56 | 314=>57 | n=>n,fun | 9=>9 | 3=>3 | 4=>4 | 5=>5 | 46=>57 | 146=>70 | 51=>69 | n=>n,fun | 1=>0 | n=>n⟩
theorem Tryd.lays219:Go.Proofs.Lays.n219 Tryd.prog Tryd.lays219_ren:={
  mixed:=by kernel_rfl
  f217:=Tryd.func37.trans (congrArg some (by kernel_rfl))
  f219:=Tryd.func28.trans (congrArg some (by kernel_rfl))
  f224:=Tryd.func39.trans (congrArg some (by kernel_rfl))
  f225:=Tryd.func38.trans (congrArg some (by kernel_rfl))
  f266:=Tryd.func56.trans (congrArg some (by kernel_rfl))
  f267:=Tryd.func40.trans (congrArg some (by kernel_rfl))
  f314:=Tryd.func57.trans (congrArg some (by kernel_rfl))
  t3:=Tryd.underlying3
  a3:=Tryd.isAgg3
  z3:=Tryd.sizeOf3
  v3:=Tryd.zeroValue3
  t4:=Tryd.underlying4
  a4:=Tryd.isAgg4
  z4:=Tryd.sizeOf4
  v4:=Tryd.zeroValue4
  t5:=Tryd.underlying5
  a5:=Tryd.isAgg5
  z5:=Tryd.sizeOf5
  v5:=Tryd.zeroValue5
  t9:=Tryd.underlying9
  a9:=Tryd.isAgg9
  z9:=Tryd.sizeOf9
  v9:=Tryd.zeroValue9
  t46:=Tryd.underlying57
  a46:=Tryd.isAgg57
  z46:=Tryd.sizeOf57
  v46:=Tryd.zeroValue57
  t51:=Tryd.underlying69
  a51:=Tryd.isAgg69
  z51:=Tryd.sizeOf69
  v51:=Tryd.zeroValue69
  t146:=Tryd.underlying70
  a146:=Tryd.isAgg70
  z146:=Tryd.sizeOf70
  v146:=Tryd.zeroValue70
  g1:=by kernel_rfl }
open Go.RowKit Go.Lib in
/-- internal/stringslite.Index (what strings.Index calls) AT A substr OF ONE BYTE c: IT RETURNS 'Lib.indexByte s c'; the world is as it was. (LAID: no walk: one application.) -/
theorem Tryd.stringslite_Index_one (s:ByteArray) (c:UInt8) (w:World) :
    Calls Tryd.prog 28 #[.string s,.string ⟨#[c]⟩] w fun e w'=>e=.returned (.int .i64 (Lib.indexByte s.data.toList c))∧w'=w:=Any.stringslite_Index_one Tryd.lays219 s c w
open Go.RowKit Go.Lib in
/-- internal/stringslite.Index (what strings.Index calls) AT A substr OF WHATEVER LENGTH: IT RETURNS 'Lib.index s substr'; the world is as it was. 'm': what internal/bytealg.MaxLen holds: whatever. (LAID: no walk: one application.) -/
theorem Tryd.stringslite_Index (s sub:ByteArray) (m:Int) (w:World) (hs:s.size<4294967281) (hm:w.cell? ⟨0,0,none⟩=some (.int .i64 m)) :
    Calls Tryd.prog 28 #[.string s,.string sub] w fun e w'=>e=.returned (.int .i64 (Lib.index s.data.toList sub.data.toList))∧w'=w:=Any.stringslite_Index Tryd.lays219 s sub m w hs hm
def Tryd.laysGw17_ren:Go.Shelf.Ren:=⟨fun | 17=>31 | 15=>44 | 20=>61 | n=>n,fun | 9=>9 | 23=>49 | 4=>4 | 3=>3 | 0=>0 | 21=>21 | n=>n,fun | n=>n⟩
theorem Tryd.laysGw17:Go.Proofs.LaysGw.n17 Tryd.prog Tryd.laysGw17_ren:={
  mixed:=by kernel_rfl
  f15:=Tryd.func44.trans (congrArg some (by kernel_rfl))
  f17:=Tryd.func31.trans (congrArg some (by kernel_rfl))
  f20:=Tryd.func61.trans (congrArg some (by kernel_rfl))
  t0:=Tryd.underlying0
  a0:=Tryd.isAgg0
  z0:=Tryd.sizeOf0
  v0:=Tryd.zeroValue0
  i0:=by kernel_rfl
  t3:=Tryd.underlying3
  a3:=Tryd.isAgg3
  z3:=Tryd.sizeOf3
  v3:=Tryd.zeroValue3
  i3:=by kernel_rfl
  t4:=Tryd.underlying4
  a4:=Tryd.isAgg4
  z4:=Tryd.sizeOf4
  v4:=Tryd.zeroValue4
  i4:=by kernel_rfl
  t9:=Tryd.underlying9
  a9:=Tryd.isAgg9
  z9:=Tryd.sizeOf9
  v9:=Tryd.zeroValue9
  i9:=by kernel_rfl
  t21:=Tryd.underlying21
  a21:=Tryd.isAgg21
  z21:=Tryd.sizeOf21
  v21:=Tryd.zeroValue21
  i21:=by kernel_rfl
  t23:=Tryd.underlying49
  a23:=Tryd.isAgg49
  z23:=Tryd.sizeOf49
  v23:=Tryd.zeroValue49
  i23:=by kernel_rfl }
open Go.RowKit Go.Lib in
theorem Tryd.strings_ContainsFunc (g:Nat) (lb:Array Value) (eg:∀ args w,(callFunc g args).run Tryd.prog w=.ok (.enter g args) w) (p:Nat→Bool) (s:ByteArray) (w:World) (hp:PredAt Tryd.prog g lb encR p w) :
    Calls Tryd.prog 31 #[.string s,.func (.func g) #[] lb] w fun e w'=>e=.returned (.bool (decide (0≤Lib.idxFunc p true s)))∧Below w.heap.size w w':=Any.strings_ContainsFunc Tryd.laysGw17 g lb eg p s w hp
def Tryd.lays146_ren:Go.Shelf.Ren:=⟨fun | 146=>15 | 221=>29 | 268=>41 | 138=>42 | 143=>43 | 195=>58 | 197=>59 | 218=>60 | 219=>28 | 260=>70 | 217=>37 | 225=>38 | 224=>39 | 267=>40 | 266=>56 | 314=>57 | n=>n,fun | 9=>9 | 31=>39 | 3=>3 | 4=>4 | 0=>0 | 105=>73 | 21=>21 | 5=>5 | 46=>57 | 119=>93 | 139=>96 | 138=>95 | 146=>70 | 51=>69 | n=>n,fun | 1=>0 | 3=>3 | 4=>4 | n=>n⟩
theorem Tryd.lays146:Go.Proofs.Lays.n146 Tryd.prog Tryd.lays146_ren:={
  mixed:=by kernel_rfl
  f138:=Tryd.func42.trans (congrArg some (by kernel_rfl))
  f143:=Tryd.func43.trans (congrArg some (by kernel_rfl))
  f146:=Tryd.func15.trans (congrArg some (by kernel_rfl))
  f195:=Tryd.func58.trans (congrArg some (by kernel_rfl))
  f197:=Tryd.func59.trans (congrArg some (by kernel_rfl))
  f217:=Tryd.func37.trans (congrArg some (by kernel_rfl))
  f218:=Tryd.func60.trans (congrArg some (by kernel_rfl))
  f219:=Tryd.func28.trans (congrArg some (by kernel_rfl))
  f221:=Tryd.func29.trans (congrArg some (by kernel_rfl))
  f224:=Tryd.func39.trans (congrArg some (by kernel_rfl))
  f225:=Tryd.func38.trans (congrArg some (by kernel_rfl))
  f260:=Tryd.func70.trans (congrArg some (by kernel_rfl))
  f266:=Tryd.func56.trans (congrArg some (by kernel_rfl))
  f267:=Tryd.func40.trans (congrArg some (by kernel_rfl))
  f268:=Tryd.func41.trans (congrArg some (by kernel_rfl))
  f314:=Tryd.func57.trans (congrArg some (by kernel_rfl))
  t0:=Tryd.underlying0
  a0:=Tryd.isAgg0
  z0:=Tryd.sizeOf0
  v0:=Tryd.zeroValue0
  t3:=Tryd.underlying3
  a3:=Tryd.isAgg3
  z3:=Tryd.sizeOf3
  v3:=Tryd.zeroValue3
  t4:=Tryd.underlying4
  a4:=Tryd.isAgg4
  z4:=Tryd.sizeOf4
  v4:=Tryd.zeroValue4
  t5:=Tryd.underlying5
  a5:=Tryd.isAgg5
  z5:=Tryd.sizeOf5
  v5:=Tryd.zeroValue5
  t9:=Tryd.underlying9
  a9:=Tryd.isAgg9
  z9:=Tryd.sizeOf9
  v9:=Tryd.zeroValue9
  t21:=Tryd.underlying21
  a21:=Tryd.isAgg21
  z21:=Tryd.sizeOf21
  v21:=Tryd.zeroValue21
  t31:=Tryd.underlying39
  a31:=Tryd.isAgg39
  z31:=Tryd.sizeOf39
  v31:=Tryd.zeroValue39
  t46:=Tryd.underlying57
  a46:=Tryd.isAgg57
  z46:=Tryd.sizeOf57
  v46:=Tryd.zeroValue57
  t51:=Tryd.underlying69
  a51:=Tryd.isAgg69
  z51:=Tryd.sizeOf69
  v51:=Tryd.zeroValue69
  t105:=Tryd.underlying73
  a105:=Tryd.isAgg73
  z105:=Tryd.sizeOf73
  v105:=Tryd.zeroValue73
  t119:=Tryd.underlying93
  a119:=Tryd.isAgg93
  z119:=Tryd.sizeOf93
  t138:=Tryd.underlying95
  a138:=Tryd.isAgg95
  z138:=Tryd.sizeOf95
  v138:=Tryd.zeroValue95
  t139:=Tryd.underlying96
  a139:=Tryd.isAgg96
  z139:=Tryd.sizeOf96
  v139:=Tryd.zeroValue96
  t146:=Tryd.underlying70
  a146:=Tryd.isAgg70
  z146:=Tryd.sizeOf70
  v146:=Tryd.zeroValue70
  g1:=by kernel_rfl
  g3:=by kernel_rfl
  g4:=by kernel_rfl }
open Go.RowKit Go.Lib in
/-- strings.Split. (LAID: no walk: one application.) -/
theorem Tryd.strings_Split (s sep:ByteArray) (m:Int) (w:World) (hs:s.size<4294967281) (hm:w.cell? ⟨0,0,none⟩=some (.int .i64 m)) (h1:1≤sep.size) :
    Calls Tryd.prog 15 #[.string s,.string sep] w fun e w' =>
      e=.returned (.slice (some ⟨w.heap.size,0,none⟩) (Lib.countB s sep+1) (Lib.countB s sep+1))∧w'=w.alloc (.cells ((Lib.splitB sep 0 (Lib.countB s sep) s).map Value.string).toArray 9):=Any.strings_Split Tryd.lays146 (by kernel_rfl) s sep m w hs hm h1
def Tryd.lays160s_ren:Go.Shelf.Ren:=⟨fun | 160=>33 | 232=>46 | 231=>45 | 227=>47 | 234=>49 | 233=>48 | 236=>51 | 235=>50 | 228=>62 | 271=>64 | 151=>63 | 197=>59 | 120=>72 | 152=>71 | 260=>70 | 137=>55 | 119=>77 | 224=>39 | 225=>38 | 217=>37 | 266=>56 | n=>n,fun | 9=>9 | 4=>4 | 3=>3 | 5=>5 | 117=>63 | 116=>62 | 0=>0 | 124=>66 | 21=>21 | 105=>73 | 46=>57 | 119=>93 | 139=>96 | 138=>95 | n=>n,fun | 3=>3 | 4=>4 | n=>n⟩
theorem Tryd.lays160s:Go.Proofs.Lays.n160 Tryd.prog Tryd.lays160s_ren:={
  mixed:=by kernel_rfl
  f119:=Tryd.func77.trans (congrArg some (by kernel_rfl))
  f120:=Tryd.func72.trans (congrArg some (by kernel_rfl))
  f137:=Tryd.func55.trans (congrArg some (by kernel_rfl))
  f151:=Tryd.func63.trans (congrArg some (by kernel_rfl))
  f152:=Tryd.func71.trans (congrArg some (by kernel_rfl))
  f160:=Tryd.func33.trans (congrArg some (by kernel_rfl))
  f197:=Tryd.func59.trans (congrArg some (by kernel_rfl))
  f217:=Tryd.func37.trans (congrArg some (by kernel_rfl))
  f224:=Tryd.func39.trans (congrArg some (by kernel_rfl))
  f225:=Tryd.func38.trans (congrArg some (by kernel_rfl))
  f227:=Tryd.func47.trans (congrArg some (by kernel_rfl))
  f228:=Tryd.func62.trans (congrArg some (by kernel_rfl))
  f231:=Tryd.func45.trans (congrArg some (by kernel_rfl))
  f232:=Tryd.func46.trans (congrArg some (by kernel_rfl))
  f233:=Tryd.func48.trans (congrArg some (by kernel_rfl))
  f234:=Tryd.func49.trans (congrArg some (by kernel_rfl))
  f235:=Tryd.func50.trans (congrArg some (by kernel_rfl))
  f236:=Tryd.func51.trans (congrArg some (by kernel_rfl))
  f260:=Tryd.func70.trans (congrArg some (by kernel_rfl))
  f266:=Tryd.func56.trans (congrArg some (by kernel_rfl))
  f271:=Tryd.func64.trans (congrArg some (by kernel_rfl))
  t0:=Tryd.underlying0
  a0:=Tryd.isAgg0
  z0:=Tryd.sizeOf0
  v0:=Tryd.zeroValue0
  t3:=Tryd.underlying3
  a3:=Tryd.isAgg3
  z3:=Tryd.sizeOf3
  v3:=Tryd.zeroValue3
  t4:=Tryd.underlying4
  a4:=Tryd.isAgg4
  z4:=Tryd.sizeOf4
  v4:=Tryd.zeroValue4
  t5:=Tryd.underlying5
  a5:=Tryd.isAgg5
  z5:=Tryd.sizeOf5
  v5:=Tryd.zeroValue5
  t9:=Tryd.underlying9
  a9:=Tryd.isAgg9
  z9:=Tryd.sizeOf9
  v9:=Tryd.zeroValue9
  t21:=Tryd.underlying21
  a21:=Tryd.isAgg21
  z21:=Tryd.sizeOf21
  v21:=Tryd.zeroValue21
  t46:=Tryd.underlying57
  a46:=Tryd.isAgg57
  z46:=Tryd.sizeOf57
  v46:=Tryd.zeroValue57
  t105:=Tryd.underlying73
  a105:=Tryd.isAgg73
  z105:=Tryd.sizeOf73
  v105:=Tryd.zeroValue73
  t116:=Tryd.underlying62
  a116:=Tryd.isAgg62
  z116:=Tryd.sizeOf62
  t117:=Tryd.underlying63
  a117:=Tryd.isAgg63
  z117:=Tryd.sizeOf63
  v117:=Tryd.zeroValue63
  t119:=Tryd.underlying93
  a119:=Tryd.isAgg93
  z119:=Tryd.sizeOf93
  t124:=Tryd.underlying66
  a124:=Tryd.isAgg66
  z124:=Tryd.sizeOf66
  v124:=Tryd.zeroValue66
  t138:=Tryd.underlying95
  a138:=Tryd.isAgg95
  z138:=Tryd.sizeOf95
  v138:=Tryd.zeroValue95
  t139:=Tryd.underlying96
  a139:=Tryd.isAgg96
  z139:=Tryd.sizeOf96
  v139:=Tryd.zeroValue96
  g3:=by kernel_rfl
  g4:=by kernel_rfl }
open Go.RowKit in
/-- strings.Trim at an ASCII cutset. -/
theorem Tryd.strings_Trim (s cutset:ByteArray) (w:World) (hs:s.size≤9223372036854775807) (hcs:cutset.size<4294967281) (hascii:∀ (j:Nat) b,cutset.data.toList[j]? = some b→b.toNat<128) :
    Calls Tryd.prog 33 #[.string s,.string cutset] w fun e w'=>e=.returned (.string ⟨(Lib.trimS s.data.toList cutset.data.toList).toArray⟩)∧Below w.heap.size w w':=Any.strings_Trim_laid Tryd.lays160s (by kernel_rfl) s cutset w hs hcs hascii
end Go.Proofs.YtikhlmaaokoehaaDoor.Shelf
