/- Contracts of the shelf, laid at this program. -/
import Derived.Shelf.Strings.Builder1
import Derived.Shelf.Strings.Builder2
import Derived.Shelf.Strings.OnBuilder
import Derived.Shelf.Strings.Trim
import Derived.Shelf.Small.Utf8
import Derived.Shelf.Small.Strs
import Derived.Shelf.Strings.BuilderF
import Derived.Shelf.Strings.BuilderK
import Derived.Shelf.Utf8.RuneCount
import Derived.Shelf.Strings.Builder2Cap
import Derived.Shelf.Strconv.Atoi
import Derived.Shelf.Strconv.Itoa0
import Derived.Shelf.Strconv.Itoa1
import Derived.Shelf.LaysM
import Derived.Shelf.Strconv.Itoa2
import Derived.Shelf.Strconv.Itoa3
import Derived.Shelf.Strconv.AtoiErrFast
import Derived.Shelf.Strconv.ParseIntEmpty
import Derived.Shelf.Strconv.AtoiFail
import Derived.Shelf.Strconv.Clone
import Derived.Shelf.Strconv.SyntaxError
import Derived.Shelf.LaysC
import Derived.Shelf.Strconv.ToError
import Derived.Shelf.Strconv.AtoiErr
import Derived.Shelf.Strconv.Lower
import Derived.Shelf.Strconv.ParseUint10
import Derived.Shelf.Strconv.ParseUint10Empty
import Derived.Shelf.Strconv.ParseUint10Any
import Derived.Shelf.Strconv.ParseInt10
import Derived.Shelf.Strconv.RangeError
import Derived.Shelf.Strconv.ToErrorRange
import Derived.Shelf.Strconv.ParseUintEmpty
import Derived.Shelf.Strconv.ParseUint10b64
import Derived.Shelf.Strconv.ParseUint10b32
import Derived.Shelf.Strconv.ParseUint10b16
import Derived.Shelf.Strconv.ParseUint10b8
import Derived.Shelf.Strconv.ParseUint10At
import Derived.Shelf.Strconv.ParseInt10At64
import Derived.Shelf.Strconv.ParseInt10At32
import Derived.Shelf.Strconv.ParseInt10At16
import Derived.Shelf.Strconv.ParseInt10At8
import Derived.Shelf.Strings.Search1
import Derived.Shelf.Strings.Search2
import Derived.Shelf.Strings.Search3
import Derived.Shelf.Strings.Cut
import Derived.Shelf.Strings.Count
import Derived.Shelf.Strings.Shaped
import Derived.Shelf.GgClosure.StringsIndexFunc
import Derived.Shelf.GgClosure.StringsIndexFuncTop
import Derived.Shelf.GgClosure.StringsRunes
import Derived.Shelf.Strings.Split
import Derived.Shelf.Strings.SplitShaped
import Derived.Shelf.Unicode.Decode
import Derived.Shelf.Strings.Runes
import Derived.Shelf.Strings.RuneCount
import Derived.Shelf.Strings.AsciiSet
import Derived.Shelf.Strings.Explode
import Derived.Shelf.Unicode.DecodeSlow
import Derived.Shelf.Unicode.DecodeAny
import Derived.Shelf.Unicode.DecodeLast
import Derived.Shelf.Strings.FuncGrows
import Derived.Shelf.Strings.BuilderCap
import Derived.Shelf.Slices.SearchI
import Derived.Shelf.Strings.SlTrimAscii
import Derived.Shelf.Strings.BuilderK
import Derived.WalkKit
import Derived.Test.YtdccapcfbielcaaGreatDoorProg
namespace Go.Proofs.YtdccapcfbielcaaGreatDoor.Shelf
open Go.Proofs Go.RowKit
open Go.Shelf
def Tryz.lays170_ren:Go.Shelf.Ren:=⟨fun | 170=>14 | n=>n,fun | 70=>35 | 3=>3 | 0=>0 | 72=>38 | 37=>36 | 5=>5 | n=>n,fun | n=>n⟩
theorem Tryz.lays170:Go.Proofs.Lays.n170 Tryz.prog Tryz.lays170_ren:={
  mixed:=by kernel_rfl
  f170:=Tryz.func14.trans (congrArg some (by kernel_rfl))
  t0:=Tryz.underlying0
  a0:=Tryz.isAgg0
  z0:=Tryz.sizeOf0
  v0:=Tryz.zeroValue0
  t3:=Tryz.underlying3
  a3:=Tryz.isAgg3
  z3:=Tryz.sizeOf3
  v3:=Tryz.zeroValue3
  t37:=Tryz.underlying36
  a37:=Tryz.isAgg36
  z37:=Tryz.sizeOf36
  v37:=Tryz.zeroValue36
  t70:=Tryz.underlying35
  a70:=Tryz.isAgg35
  z70:=Tryz.sizeOf35
  v70:=Tryz.zeroValue35
  t72:=Tryz.underlying38
  a72:=Tryz.isAgg38
  z72:=Tryz.sizeOf38
  v72:=Tryz.zeroValue38 }
def Tryz.lays169_ren:Go.Shelf.Ren:=⟨fun | 169=>15 | n=>n,fun | 70=>35 | 9=>9 | 0=>0 | 72=>38 | 37=>36 | 127=>65 | 3=>3 | 5=>5 | n=>n,fun | n=>n⟩
theorem Tryz.lays169:Go.Proofs.Lays.n169 Tryz.prog Tryz.lays169_ren:={
  mixed:=by kernel_rfl
  f169:=Tryz.func15.trans (congrArg some (by kernel_rfl))
  t0:=Tryz.underlying0
  a0:=Tryz.isAgg0
  z0:=Tryz.sizeOf0
  v0:=Tryz.zeroValue0
  t3:=Tryz.underlying3
  a3:=Tryz.isAgg3
  z3:=Tryz.sizeOf3
  v3:=Tryz.zeroValue3
  t9:=Tryz.underlying9
  a9:=Tryz.isAgg9
  z9:=Tryz.sizeOf9
  v9:=Tryz.zeroValue9
  t37:=Tryz.underlying36
  a37:=Tryz.isAgg36
  z37:=Tryz.sizeOf36
  v37:=Tryz.zeroValue36
  t70:=Tryz.underlying35
  a70:=Tryz.isAgg35
  z70:=Tryz.sizeOf35
  v70:=Tryz.zeroValue35
  t72:=Tryz.underlying38
  a72:=Tryz.isAgg38
  z72:=Tryz.sizeOf38
  v72:=Tryz.zeroValue38
  t127:=Tryz.underlying65
  a127:=Tryz.isAgg65
  z127:=Tryz.sizeOf65
  v127:=Tryz.zeroValue65 }
theorem Tryz.Builder_Extra_169:Builder.Extra Tryz.prog Tryz.lays169_ren:={
  sizeBuilder:=by kernel_rfl
  liesBuilder:=by kernel_rfl
  t5:=Tryz.underlying5
  a5:=Tryz.isAgg5
  z5:=Tryz.sizeOf5
  v5:=Tryz.zeroValue5
  infoByte:=by kernel_rfl
  cellsByte:=by kernel_rfl
  sizeByte:=by kernel_rfl
  neB5:=by decide }
def Tryz.lays241_ren:Go.Shelf.Ren:=⟨fun | 241=>43 | 277=>62 | n=>n,fun | 70=>35 | 3=>3 | 0=>0 | 72=>38 | 37=>36 | 5=>5 | n=>n,fun | n=>n⟩
theorem Tryz.lays241:Go.Proofs.Lays.n241 Tryz.prog Tryz.lays241_ren:={
  mixed:=by kernel_rfl
  f241:=Tryz.func43.trans (congrArg some (by kernel_rfl))
  f277:=Tryz.func62.trans (congrArg some (by kernel_rfl))
  t0:=Tryz.underlying0
  a0:=Tryz.isAgg0
  z0:=Tryz.sizeOf0
  v0:=Tryz.zeroValue0
  t3:=Tryz.underlying3
  a3:=Tryz.isAgg3
  z3:=Tryz.sizeOf3
  v3:=Tryz.zeroValue3
  t37:=Tryz.underlying36
  a37:=Tryz.isAgg36
  z37:=Tryz.sizeOf36
  v37:=Tryz.zeroValue36
  t70:=Tryz.underlying35
  a70:=Tryz.isAgg35
  z70:=Tryz.sizeOf35
  v70:=Tryz.zeroValue35
  t72:=Tryz.underlying38
  a72:=Tryz.isAgg38
  z72:=Tryz.sizeOf38
  v72:=Tryz.zeroValue38 }
theorem Tryz.Builder_Extra_241:Builder.Extra Tryz.prog Tryz.lays241_ren:={
  sizeBuilder:=by kernel_rfl
  liesBuilder:=by kernel_rfl
  t5:=Tryz.underlying5
  a5:=Tryz.isAgg5
  z5:=Tryz.sizeOf5
  v5:=Tryz.zeroValue5
  infoByte:=by kernel_rfl
  cellsByte:=by kernel_rfl
  sizeByte:=by kernel_rfl
  neB5:=by decide }
open Go.RowKit in
/-- (*strings.Builder).grow (no doc but "grow copies the buffer to a new, larger buffer so that there are at least n bytes of capacity beyond len(b.buf)."): AT A BUILDER WITHOUT A BUFFER: a new row of whatever bytes for its buffer, none of them its own yet. Three draws. (LAID: no walk: one application.) -/
theorem Tryz.Builder_grow_fresh (B b n:Nat) (w:World) (hB:B≤b) (hbk:w.heap[b]? = some (.cells #[.pointer (some ⟨b,0,none⟩),.slice none 0 0] 38 (0,0))) (hBw:B≤w.heap.size) (hn:n≤281474976710656) :
    Calls Tryz.prog 43 #[.pointer (some ⟨b,0,none⟩),.int .i64 n] w fun e w'=>e=.returned (.tuple #[])∧(Lib.BuilderAt 38 5 B b (.pointer (some ⟨b,0,none⟩)) [] w'∧Below B w w'):=Any.Builder_grow_fresh Tryz.lays241 Tryz.Builder_Extra_241 B b n w hB hbk hBw hn
def Tryz.lays106_ren:Go.Shelf.Ren:=⟨fun | 106=>41 | 213=>61 | 265=>82 | n=>n,fun | 9=>9 | 3=>3 | n=>n,fun | n=>n⟩
theorem Tryz.lays106:Go.Proofs.Lays.n106 Tryz.prog Tryz.lays106_ren:={
  mixed:=by kernel_rfl
  f106:=Tryz.func41.trans (congrArg some (by kernel_rfl))
  f213:=Tryz.func61.trans (congrArg some (by kernel_rfl))
  f265:=Tryz.func82.trans (congrArg some (by kernel_rfl))
  t3:=Tryz.underlying3
  a3:=Tryz.isAgg3
  z3:=Tryz.sizeOf3
  v3:=Tryz.zeroValue3
  t9:=Tryz.underlying9
  a9:=Tryz.isAgg9
  z9:=Tryz.sizeOf9
  v9:=Tryz.zeroValue9 }
open Go.RowKit in
/-- strings.Compare: "Compare returns an integer comparing two strings lexicographically. The result will be 0 if a == b, -1 if a < b, and +1 if a > b.": IT RETURNS 'Lib.compareBytes a b'; the world is as it was. (LAID: no walk: one application.) -/
theorem Tryz.strings_Compare (a b:ByteArray) (w:World) :
    Calls Tryz.prog 41 #[.string a,.string b] w fun e w'=>e=.returned (.int .i64 (Lib.compareBytes a.data.toList b.data.toList))∧w'=w:=Any.strings_Compare Tryz.lays106 a b w
open Go.RowKit in
/-- (*strings.Builder).Len: "Len returns the number of accumulated bytes; b.Len() == len(b.String()).": the world is as it was. (THE FORM '_f': 'Lib.IsBuilderF'.) (LAID: no walk: one application.) -/
theorem Tryz.Builder_Len_f (B b:Nat) (bs:List Value) (w:World) (h:Lib.IsBuilderF 38 5 B b bs w) :
    Calls Tryz.prog 14 #[.pointer (some ⟨b,0,none⟩)] w fun e w'=>e=.returned (.int .i64 bs.length)∧w'=w:=Any.Builder_Len_f Tryz.lays170 B b bs w h
open Go.RowKit in
/-- (*strings.Builder).String: "String returns the accumulated string.": WHATEVER THE BUILDER HOLDS; THE FORM '_k': OVER 'Lib.IsBuilderF' (a builder that 'String()' may have read), AND WITH THE FRAME THAT REACHES ABOVE THE BUILDER: 'Lib.OthersKept': every block that is not b and is no row of uint8's stands as it stood: the iterator of a range among them. (LAID: no walk: one application.) -/
theorem Tryz.Builder_String_any_k (B b:Nat) (l:List UInt8) (w:World) (h:Lib.IsBuilderF 38 5 B b (Lib.byteCells l) w) (hBw:B≤w.heap.size) :
    Calls Tryz.prog 15 #[.pointer (some ⟨b,0,none⟩)] w fun e w'=>e=.returned (.string ⟨l.toArray⟩)∧(Lib.IsBuilderF 38 5 B b (Lib.byteCells l) w'∧Below B w w'∧Lib.OthersKept 5 (some b) w w'):=Any.Builder_String_any_k Tryz.lays169 Tryz.Builder_Extra_169 B b l w h hBw
def Tryz.lays172_ren:Go.Shelf.Ren:=⟨fun | 172=>50 | 244=>76 | 245=>77 | 247=>91 | 279=>92 | 280=>93 | 281=>94 | 282=>95 | 287=>101 | 316=>102 | 171=>13 | 205=>103 | 321=>106 | 322=>107 | 243=>27 | 246=>44 | 283=>63 | 284=>64 | 285=>65 | 286=>66 | 129=>84 | 317=>83 | 318=>85 | 319=>86 | 320=>87 | 337=>99 | 338=>100 | n=>n,fun | 9=>9 | 3=>3 | 75=>41 | 76=>42 | 4=>4 | 5=>5 | 167=>122 | 37=>36 | 0=>0 | 85=>123 | 2=>2 | 168=>125 | 53=>94 | 175=>135 | 46=>106 | 210=>139 | 127=>65 | 145=>146 | 143=>144 | 21=>21 | 171=>93 | 173=>97 | 212=>112 | 51=>113 | 20=>20 | 213=>114 | 232=>141 | 233=>142 | 80=>48 | n=>n,fun | 15=>4 | 16=>5 | 17=>1 | 18=>6 | 19=>7 | n=>n⟩
theorem Tryz.lays172:Go.Proofs.Lays.n172 Tryz.prog Tryz.lays172_ren:={
  mixed:=by kernel_rfl
  f129:=Tryz.func84.trans (congrArg some (by kernel_rfl))
  f171:=Tryz.func13.trans (congrArg some (by kernel_rfl))
  f172:=Tryz.func50.trans (congrArg some (by kernel_rfl))
  f205:=Tryz.func103.trans (congrArg some (by kernel_rfl))
  f243:=Tryz.func27.trans (congrArg some (by kernel_rfl))
  f244:=Tryz.func76.trans (congrArg some (by kernel_rfl))
  f245:=Tryz.func77.trans (congrArg some (by kernel_rfl))
  f246:=Tryz.func44.trans (congrArg some (by kernel_rfl))
  f247:=Tryz.func91.trans (congrArg some (by kernel_rfl))
  f279:=Tryz.func92.trans (congrArg some (by kernel_rfl))
  f280:=Tryz.func93.trans (congrArg some (by kernel_rfl))
  f281:=Tryz.func94.trans (congrArg some (by kernel_rfl))
  f282:=Tryz.func95.trans (congrArg some (by kernel_rfl))
  f283:=Tryz.func63.trans (congrArg some (by kernel_rfl))
  f284:=Tryz.func64.trans (congrArg some (by kernel_rfl))
  f285:=Tryz.func65.trans (congrArg some (by kernel_rfl))
  f286:=Tryz.func66.trans (congrArg some (by kernel_rfl))
  f287:=Tryz.func101.trans (congrArg some (by kernel_rfl))
  f316:=Tryz.func102.trans (congrArg some (by kernel_rfl))
  f317:=Tryz.func83.trans (congrArg some (by kernel_rfl))
  f318:=Tryz.func85.trans (congrArg some (by kernel_rfl))
  f319:=Tryz.func86.trans (congrArg some (by kernel_rfl))
  f320:=Tryz.func87.trans (congrArg some (by kernel_rfl))
  f321:=Tryz.func106.trans (congrArg some (by kernel_rfl))
  f322:=Tryz.func107.trans (congrArg some (by kernel_rfl))
  f337:=Tryz.func99.trans (congrArg some (by kernel_rfl))
  f338:=Tryz.func100.trans (congrArg some (by kernel_rfl))
  t0:=Tryz.underlying0
  a0:=Tryz.isAgg0
  z0:=Tryz.sizeOf0
  v0:=Tryz.zeroValue0
  t2:=Tryz.underlying2
  a2:=Tryz.isAgg2
  z2:=Tryz.sizeOf2
  v2:=Tryz.zeroValue2
  t3:=Tryz.underlying3
  a3:=Tryz.isAgg3
  z3:=Tryz.sizeOf3
  v3:=Tryz.zeroValue3
  t4:=Tryz.underlying4
  a4:=Tryz.isAgg4
  z4:=Tryz.sizeOf4
  v4:=Tryz.zeroValue4
  t5:=Tryz.underlying5
  a5:=Tryz.isAgg5
  z5:=Tryz.sizeOf5
  v5:=Tryz.zeroValue5
  t9:=Tryz.underlying9
  a9:=Tryz.isAgg9
  z9:=Tryz.sizeOf9
  v9:=Tryz.zeroValue9
  t20:=Tryz.underlying20
  a20:=Tryz.isAgg20
  z20:=Tryz.sizeOf20
  v20:=Tryz.zeroValue20
  t21:=Tryz.underlying21
  a21:=Tryz.isAgg21
  z21:=Tryz.sizeOf21
  v21:=Tryz.zeroValue21
  t37:=Tryz.underlying36
  a37:=Tryz.isAgg36
  z37:=Tryz.sizeOf36
  v37:=Tryz.zeroValue36
  t46:=Tryz.underlying106
  a46:=Tryz.isAgg106
  z46:=Tryz.sizeOf106
  v46:=Tryz.zeroValue106
  t51:=Tryz.underlying113
  a51:=Tryz.isAgg113
  z51:=Tryz.sizeOf113
  v51:=Tryz.zeroValue113
  t53:=Tryz.underlying94
  a53:=Tryz.isAgg94
  z53:=Tryz.sizeOf94
  v53:=Tryz.zeroValue94
  t75:=Tryz.underlying41
  a75:=Tryz.isAgg41
  z75:=Tryz.sizeOf41
  v75:=Tryz.zeroValue41
  t76:=Tryz.underlying42
  a76:=Tryz.isAgg42
  z76:=Tryz.sizeOf42
  v76:=Tryz.zeroValue42
  t85:=Tryz.underlying123
  a85:=Tryz.isAgg123
  z85:=Tryz.sizeOf123
  v85:=Tryz.zeroValue123
  t127:=Tryz.underlying65
  a127:=Tryz.isAgg65
  z127:=Tryz.sizeOf65
  v127:=Tryz.zeroValue65
  t143:=Tryz.underlying144
  a143:=Tryz.isAgg144
  z143:=Tryz.sizeOf144
  v143:=Tryz.zeroValue144
  t145:=Tryz.underlying146
  a145:=Tryz.isAgg146
  z145:=Tryz.sizeOf146
  v145:=Tryz.zeroValue146
  t167:=Tryz.underlying122
  a167:=Tryz.isAgg122
  z167:=Tryz.sizeOf122
  v167:=Tryz.zeroValue122
  t168:=Tryz.underlying125
  a168:=Tryz.isAgg125
  z168:=Tryz.sizeOf125
  v168:=Tryz.zeroValue125
  t171:=Tryz.underlying93
  a171:=Tryz.isAgg93
  z171:=Tryz.sizeOf93
  v171:=Tryz.zeroValue93
  t173:=Tryz.underlying97
  a173:=Tryz.isAgg97
  z173:=Tryz.sizeOf97
  v173:=Tryz.zeroValue97
  t175:=Tryz.underlying135
  a175:=Tryz.isAgg135
  z175:=Tryz.sizeOf135
  v175:=Tryz.zeroValue135
  t210:=Tryz.underlying139
  a210:=Tryz.isAgg139
  z210:=Tryz.sizeOf139
  v210:=Tryz.zeroValue139
  t212:=Tryz.underlying112
  a212:=Tryz.isAgg112
  z212:=Tryz.sizeOf112
  v212:=Tryz.zeroValue112
  t213:=Tryz.underlying114
  a213:=Tryz.isAgg114
  z213:=Tryz.sizeOf114
  t232:=Tryz.underlying141
  a232:=Tryz.isAgg141
  z232:=Tryz.sizeOf141
  v232:=Tryz.zeroValue141
  t233:=Tryz.underlying142
  a233:=Tryz.isAgg142
  z233:=Tryz.sizeOf142
  v233:=Tryz.zeroValue142
  g15:=by kernel_rfl
  g16:=by kernel_rfl
  g17:=by kernel_rfl
  g18:=by kernel_rfl
  g19:=by kernel_rfl }
open Go.RowKit in
/-- strconv.Atoi: "Atoi is equivalent to ParseInt(s, 10, 0), converted to type int.": AT A DECIMAL NUMERAL OF AT MOST 18 BYTES: its value, and a nil error. The world behind the call: the one new row that the library's '[]byte(s)' lays. (LAID: no walk: one application.) -/
theorem Tryz.strconv_Atoi (s:ByteArray) (n:Int) (hl:s.size≤18) (h:Lib.atoi s.data.toList=some n) (w:World) :
    Calls Tryz.prog 50 #[.string s] w fun e w'=>e=.returned (.tuple #[.int .i64 n,.nilIface])∧∃ t,w'=Lib.bytesWorld w 5 t:=Any.strconv_Atoi Tryz.lays172 s n hl h w
def Tryz.laysM171_ren:Go.Shelf.Ren:=⟨fun | 171=>13 | 243=>27 | 246=>44 | 283=>63 | 284=>64 | 285=>65 | 286=>66 | 129=>84 | 317=>83 | 318=>85 | 319=>86 | 320=>87 | 337=>99 | 338=>100 | n=>n,fun | 3=>3 | 9=>9 | 2=>2 | 4=>4 | 171=>93 | 0=>0 | 53=>94 | 37=>36 | 5=>5 | 173=>97 | 212=>112 | 51=>113 | 20=>20 | 213=>114 | 46=>106 | 232=>141 | 233=>142 | n=>n,fun | 17=>1 | 18=>6 | 19=>7 | n=>n⟩
theorem Tryz.laysM171:Go.Proofs.LaysM.n171 Tryz.prog Tryz.laysM171_ren:={
  mixed:=by kernel_rfl
  f129:=Tryz.func84.trans (congrArg some (by kernel_rfl))
  f171:=Tryz.func13.trans (congrArg some (by kernel_rfl))
  f243:=Tryz.func27.trans (congrArg some (by kernel_rfl))
  f246:=Tryz.func44.trans (congrArg some (by kernel_rfl))
  f283:=Tryz.func63.trans (congrArg some (by kernel_rfl))
  f284:=Tryz.func64.trans (congrArg some (by kernel_rfl))
  f285:=Tryz.func65.trans (congrArg some (by kernel_rfl))
  f286:=Tryz.func66.trans (congrArg some (by kernel_rfl))
  f317:=Tryz.func83.trans (congrArg some (by kernel_rfl))
  f318:=Tryz.func85.trans (congrArg some (by kernel_rfl))
  f319:=Tryz.func86.trans (congrArg some (by kernel_rfl))
  f320:=Tryz.func87.trans (congrArg some (by kernel_rfl))
  f337:=Tryz.func99.trans (congrArg some (by kernel_rfl))
  f338:=Tryz.func100.trans (congrArg some (by kernel_rfl))
  t0:=Tryz.underlying0
  a0:=Tryz.isAgg0
  z0:=Tryz.sizeOf0
  v0:=Tryz.zeroValue0
  t2:=Tryz.underlying2
  a2:=Tryz.isAgg2
  z2:=Tryz.sizeOf2
  v2:=Tryz.zeroValue2
  t3:=Tryz.underlying3
  a3:=Tryz.isAgg3
  z3:=Tryz.sizeOf3
  v3:=Tryz.zeroValue3
  t4:=Tryz.underlying4
  a4:=Tryz.isAgg4
  z4:=Tryz.sizeOf4
  v4:=Tryz.zeroValue4
  t5:=Tryz.underlying5
  a5:=Tryz.isAgg5
  z5:=Tryz.sizeOf5
  v5:=Tryz.zeroValue5
  t9:=Tryz.underlying9
  a9:=Tryz.isAgg9
  z9:=Tryz.sizeOf9
  v9:=Tryz.zeroValue9
  t20:=Tryz.underlying20
  a20:=Tryz.isAgg20
  z20:=Tryz.sizeOf20
  v20:=Tryz.zeroValue20
  t37:=Tryz.underlying36
  a37:=Tryz.isAgg36
  z37:=Tryz.sizeOf36
  v37:=Tryz.zeroValue36
  t46:=Tryz.underlying106
  a46:=Tryz.isAgg106
  z46:=Tryz.sizeOf106
  v46:=Tryz.zeroValue106
  t51:=Tryz.underlying113
  a51:=Tryz.isAgg113
  z51:=Tryz.sizeOf113
  v51:=Tryz.zeroValue113
  t53:=Tryz.underlying94
  a53:=Tryz.isAgg94
  z53:=Tryz.sizeOf94
  v53:=Tryz.zeroValue94
  t171:=Tryz.underlying93
  a171:=Tryz.isAgg93
  z171:=Tryz.sizeOf93
  v171:=Tryz.zeroValue93
  t173:=Tryz.underlying97
  a173:=Tryz.isAgg97
  z173:=Tryz.sizeOf97
  v173:=Tryz.zeroValue97
  t212:=Tryz.underlying112
  a212:=Tryz.isAgg112
  z212:=Tryz.sizeOf112
  v212:=Tryz.zeroValue112
  t213:=Tryz.underlying114
  a213:=Tryz.isAgg114
  z213:=Tryz.sizeOf114
  t232:=Tryz.underlying141
  a232:=Tryz.isAgg141
  z232:=Tryz.sizeOf141
  v232:=Tryz.zeroValue141
  t233:=Tryz.underlying142
  a233:=Tryz.isAgg142
  z233:=Tryz.sizeOf142
  v233:=Tryz.zeroValue142
  g17:=by kernel_rfl
  g18:=by kernel_rfl
  g19:=by kernel_rfl
  i0:=by kernel_rfl
  i2:=by kernel_rfl
  i3:=by kernel_rfl
  i4:=by kernel_rfl
  i5:=by kernel_rfl
  i9:=by kernel_rfl
  i20:=by kernel_rfl
  i37:=by kernel_rfl
  i46:=by kernel_rfl
  i51:=by kernel_rfl
  i53:=by kernel_rfl
  i171:=by kernel_rfl
  i173:=by kernel_rfl
  i212:=by kernel_rfl
  i232:=by kernel_rfl
  i233:=by kernel_rfl
  m17:=by kernel_rfl
  m18:=by kernel_rfl
  m19:=by kernel_rfl }
open Go.RowKit Go.Sort Go.Lib in
/-- strconv.Itoa: "Itoa is equivalent to FormatInt(int64(i), 10).": i's DECIMAL NUMERAL ('Lib.itoa': a '-' where i is negative, then the digits), FOR EVERY int. The world behind the call: the world before it, new blocks behind the heap (the library's 'var a [24]byte'), draws. (LAID: no walk: one application.) -/
theorem Tryz.strconv_Itoa (n : Int) (h0 : -9223372036854775808 ≤ n) (h1 : n ≤ 9223372036854775807) (w : World) (htab : Lib.TabIs Tryz.prog w "internal/strconv.uint64pow10" .u64 Lib.pow10Tab) :
    Calls Tryz.prog 13 #[.int .i64 n] w fun e w'=>e=.returned (.string ⟨(Lib.itoa n).toArray⟩)∧∃ k os,w'=grow (w.drewN k) os:=Any.strconv_Itoa Tryz.laysM171 n h0 h1 w htab
def Tryz.lays219_ren:Go.Shelf.Ren:=⟨fun | 219=>49 | 217=>72 | 225=>73 | 224=>74 | 267=>75 | 266=>89 | 314=>90 | n=>n,fun | 9=>9 | 3=>3 | 4=>4 | 5=>5 | 46=>106 | 146=>120 | 51=>113 | n=>n,fun | 1=>0 | n=>n⟩
theorem Tryz.lays219:Go.Proofs.Lays.n219 Tryz.prog Tryz.lays219_ren:={
  mixed:=by kernel_rfl
  f217:=Tryz.func72.trans (congrArg some (by kernel_rfl))
  f219:=Tryz.func49.trans (congrArg some (by kernel_rfl))
  f224:=Tryz.func74.trans (congrArg some (by kernel_rfl))
  f225:=Tryz.func73.trans (congrArg some (by kernel_rfl))
  f266:=Tryz.func89.trans (congrArg some (by kernel_rfl))
  f267:=Tryz.func75.trans (congrArg some (by kernel_rfl))
  f314:=Tryz.func90.trans (congrArg some (by kernel_rfl))
  t3:=Tryz.underlying3
  a3:=Tryz.isAgg3
  z3:=Tryz.sizeOf3
  v3:=Tryz.zeroValue3
  t4:=Tryz.underlying4
  a4:=Tryz.isAgg4
  z4:=Tryz.sizeOf4
  v4:=Tryz.zeroValue4
  t5:=Tryz.underlying5
  a5:=Tryz.isAgg5
  z5:=Tryz.sizeOf5
  v5:=Tryz.zeroValue5
  t9:=Tryz.underlying9
  a9:=Tryz.isAgg9
  z9:=Tryz.sizeOf9
  v9:=Tryz.zeroValue9
  t46:=Tryz.underlying106
  a46:=Tryz.isAgg106
  z46:=Tryz.sizeOf106
  v46:=Tryz.zeroValue106
  t51:=Tryz.underlying113
  a51:=Tryz.isAgg113
  z51:=Tryz.sizeOf113
  v51:=Tryz.zeroValue113
  t146:=Tryz.underlying120
  a146:=Tryz.isAgg120
  z146:=Tryz.sizeOf120
  v146:=Tryz.zeroValue120
  g1:=by kernel_rfl }
open Go.RowKit Go.Lib in
/-- internal/stringslite.Index (what strings.Index calls) AT A substr OF ONE BYTE c: IT RETURNS 'Lib.indexByte s c'; the world is as it was. (LAID: no walk: one application.) -/
theorem Tryz.stringslite_Index_one (s:ByteArray) (c:UInt8) (w:World) :
    Calls Tryz.prog 49 #[.string s,.string ⟨#[c]⟩] w fun e w'=>e=.returned (.int .i64 (Lib.indexByte s.data.toList c))∧w'=w:=Any.stringslite_Index_one Tryz.lays219 s c w
open Go.RowKit Go.Lib in
/-- internal/stringslite.Index (what strings.Index calls) AT A substr OF WHATEVER LENGTH: IT RETURNS 'Lib.index s substr'; the world is as it was. 'm': what internal/bytealg.MaxLen holds: whatever. (LAID: no walk: one application.) -/
theorem Tryz.stringslite_Index (s sub:ByteArray) (m:Int) (w:World) (hs:s.size<4294967281) (hm:w.cell? ⟨0,0,none⟩=some (.int .i64 m)) :
    Calls Tryz.prog 49 #[.string s,.string sub] w fun e w'=>e=.returned (.int .i64 (Lib.index s.data.toList sub.data.toList))∧w'=w:=Any.stringslite_Index Tryz.lays219 s sub m w hs hm
def Tryz.laysGw17_ren:Go.Shelf.Ren:=⟨fun | 17=>51 | 15=>78 | 20=>96 | n=>n,fun | 9=>9 | 23=>83 | 4=>4 | 3=>3 | 0=>0 | 21=>21 | n=>n,fun | n=>n⟩
theorem Tryz.laysGw17:Go.Proofs.LaysGw.n17 Tryz.prog Tryz.laysGw17_ren:={
  mixed:=by kernel_rfl
  f15:=Tryz.func78.trans (congrArg some (by kernel_rfl))
  f17:=Tryz.func51.trans (congrArg some (by kernel_rfl))
  f20:=Tryz.func96.trans (congrArg some (by kernel_rfl))
  t0:=Tryz.underlying0
  a0:=Tryz.isAgg0
  z0:=Tryz.sizeOf0
  v0:=Tryz.zeroValue0
  i0:=by kernel_rfl
  t3:=Tryz.underlying3
  a3:=Tryz.isAgg3
  z3:=Tryz.sizeOf3
  v3:=Tryz.zeroValue3
  i3:=by kernel_rfl
  t4:=Tryz.underlying4
  a4:=Tryz.isAgg4
  z4:=Tryz.sizeOf4
  v4:=Tryz.zeroValue4
  i4:=by kernel_rfl
  t9:=Tryz.underlying9
  a9:=Tryz.isAgg9
  z9:=Tryz.sizeOf9
  v9:=Tryz.zeroValue9
  i9:=by kernel_rfl
  t21:=Tryz.underlying21
  a21:=Tryz.isAgg21
  z21:=Tryz.sizeOf21
  v21:=Tryz.zeroValue21
  i21:=by kernel_rfl
  t23:=Tryz.underlying83
  a23:=Tryz.isAgg83
  z23:=Tryz.sizeOf83
  v23:=Tryz.zeroValue83
  i23:=by kernel_rfl }
open Go.RowKit Go.Lib in
theorem Tryz.strings_ContainsFunc (g:Nat) (lb:Array Value) (eg:∀ args w,(callFunc g args).run Tryz.prog w=.ok (.enter g args) w) (p:Nat→Bool) (s:ByteArray) (w:World) (hp:PredAt Tryz.prog g lb encR p w) :
    Calls Tryz.prog 51 #[.string s,.func (.func g) #[] lb] w fun e w'=>e=.returned (.bool (decide (0≤Lib.idxFunc p true s)))∧Below w.heap.size w w':=Any.strings_ContainsFunc Tryz.laysGw17 g lb eg p s w hp
def Tryz.lays146_ren:Go.Shelf.Ren:=⟨fun | 146=>17 | 221=>31 | 268=>45 | 138=>46 | 143=>47 | 195=>67 | 197=>68 | 218=>69 | 219=>49 | 260=>88 | 217=>72 | 225=>73 | 224=>74 | 267=>75 | 266=>89 | 314=>90 | n=>n,fun | 9=>9 | 31=>46 | 3=>3 | 4=>4 | 0=>0 | 105=>100 | 21=>21 | 5=>5 | 46=>106 | 119=>131 | 139=>134 | 138=>133 | 146=>120 | 51=>113 | n=>n,fun | 1=>0 | 3=>2 | 4=>3 | n=>n⟩
theorem Tryz.lays146:Go.Proofs.Lays.n146 Tryz.prog Tryz.lays146_ren:={
  mixed:=by kernel_rfl
  f138:=Tryz.func46.trans (congrArg some (by kernel_rfl))
  f143:=Tryz.func47.trans (congrArg some (by kernel_rfl))
  f146:=Tryz.func17.trans (congrArg some (by kernel_rfl))
  f195:=Tryz.func67.trans (congrArg some (by kernel_rfl))
  f197:=Tryz.func68.trans (congrArg some (by kernel_rfl))
  f217:=Tryz.func72.trans (congrArg some (by kernel_rfl))
  f218:=Tryz.func69.trans (congrArg some (by kernel_rfl))
  f219:=Tryz.func49.trans (congrArg some (by kernel_rfl))
  f221:=Tryz.func31.trans (congrArg some (by kernel_rfl))
  f224:=Tryz.func74.trans (congrArg some (by kernel_rfl))
  f225:=Tryz.func73.trans (congrArg some (by kernel_rfl))
  f260:=Tryz.func88.trans (congrArg some (by kernel_rfl))
  f266:=Tryz.func89.trans (congrArg some (by kernel_rfl))
  f267:=Tryz.func75.trans (congrArg some (by kernel_rfl))
  f268:=Tryz.func45.trans (congrArg some (by kernel_rfl))
  f314:=Tryz.func90.trans (congrArg some (by kernel_rfl))
  t0:=Tryz.underlying0
  a0:=Tryz.isAgg0
  z0:=Tryz.sizeOf0
  v0:=Tryz.zeroValue0
  t3:=Tryz.underlying3
  a3:=Tryz.isAgg3
  z3:=Tryz.sizeOf3
  v3:=Tryz.zeroValue3
  t4:=Tryz.underlying4
  a4:=Tryz.isAgg4
  z4:=Tryz.sizeOf4
  v4:=Tryz.zeroValue4
  t5:=Tryz.underlying5
  a5:=Tryz.isAgg5
  z5:=Tryz.sizeOf5
  v5:=Tryz.zeroValue5
  t9:=Tryz.underlying9
  a9:=Tryz.isAgg9
  z9:=Tryz.sizeOf9
  v9:=Tryz.zeroValue9
  t21:=Tryz.underlying21
  a21:=Tryz.isAgg21
  z21:=Tryz.sizeOf21
  v21:=Tryz.zeroValue21
  t31:=Tryz.underlying46
  a31:=Tryz.isAgg46
  z31:=Tryz.sizeOf46
  v31:=Tryz.zeroValue46
  t46:=Tryz.underlying106
  a46:=Tryz.isAgg106
  z46:=Tryz.sizeOf106
  v46:=Tryz.zeroValue106
  t51:=Tryz.underlying113
  a51:=Tryz.isAgg113
  z51:=Tryz.sizeOf113
  v51:=Tryz.zeroValue113
  t105:=Tryz.underlying100
  a105:=Tryz.isAgg100
  z105:=Tryz.sizeOf100
  v105:=Tryz.zeroValue100
  t119:=Tryz.underlying131
  a119:=Tryz.isAgg131
  z119:=Tryz.sizeOf131
  t138:=Tryz.underlying133
  a138:=Tryz.isAgg133
  z138:=Tryz.sizeOf133
  v138:=Tryz.zeroValue133
  t139:=Tryz.underlying134
  a139:=Tryz.isAgg134
  z139:=Tryz.sizeOf134
  v139:=Tryz.zeroValue134
  t146:=Tryz.underlying120
  a146:=Tryz.isAgg120
  z146:=Tryz.sizeOf120
  v146:=Tryz.zeroValue120
  g1:=by kernel_rfl
  g3:=by kernel_rfl
  g4:=by kernel_rfl }
open Go.RowKit Go.Lib in
/-- strings.Split. (LAID: no walk: one application.) -/
theorem Tryz.strings_Split (s sep:ByteArray) (m:Int) (w:World) (hs:s.size<4294967281) (hm:w.cell? ⟨0,0,none⟩=some (.int .i64 m)) (h1:1≤sep.size) :
    Calls Tryz.prog 17 #[.string s,.string sep] w fun e w' =>
      e=.returned (.slice (some ⟨w.heap.size,0,none⟩) (Lib.countB s sep+1) (Lib.countB s sep+1))∧w'=w.alloc (.cells ((Lib.splitB sep 0 (Lib.countB s sep) s).map Value.string).toArray 9):=Any.strings_Split Tryz.lays146 (by kernel_rfl) s sep m w hs hm h1
def Tryz.lays160s_ren:Go.Shelf.Ren:=⟨fun | 160=>38 | 232=>54 | 231=>53 | 227=>55 | 234=>57 | 233=>56 | 236=>59 | 235=>58 | 228=>79 | 271=>81 | 151=>80 | 197=>68 | 120=>98 | 152=>97 | 260=>88 | 137=>104 | 119=>105 | 224=>74 | 225=>73 | 217=>72 | 266=>89 | n=>n,fun | 9=>9 | 4=>4 | 3=>3 | 5=>5 | 117=>87 | 116=>86 | 0=>0 | 124=>90 | 21=>21 | 105=>100 | 46=>106 | 119=>131 | 139=>134 | 138=>133 | n=>n,fun | 3=>2 | 4=>3 | n=>n⟩
theorem Tryz.lays160s:Go.Proofs.Lays.n160 Tryz.prog Tryz.lays160s_ren:={
  mixed:=by kernel_rfl
  f119:=Tryz.func105.trans (congrArg some (by kernel_rfl))
  f120:=Tryz.func98.trans (congrArg some (by kernel_rfl))
  f137:=Tryz.func104.trans (congrArg some (by kernel_rfl))
  f151:=Tryz.func80.trans (congrArg some (by kernel_rfl))
  f152:=Tryz.func97.trans (congrArg some (by kernel_rfl))
  f160:=Tryz.func38.trans (congrArg some (by kernel_rfl))
  f197:=Tryz.func68.trans (congrArg some (by kernel_rfl))
  f217:=Tryz.func72.trans (congrArg some (by kernel_rfl))
  f224:=Tryz.func74.trans (congrArg some (by kernel_rfl))
  f225:=Tryz.func73.trans (congrArg some (by kernel_rfl))
  f227:=Tryz.func55.trans (congrArg some (by kernel_rfl))
  f228:=Tryz.func79.trans (congrArg some (by kernel_rfl))
  f231:=Tryz.func53.trans (congrArg some (by kernel_rfl))
  f232:=Tryz.func54.trans (congrArg some (by kernel_rfl))
  f233:=Tryz.func56.trans (congrArg some (by kernel_rfl))
  f234:=Tryz.func57.trans (congrArg some (by kernel_rfl))
  f235:=Tryz.func58.trans (congrArg some (by kernel_rfl))
  f236:=Tryz.func59.trans (congrArg some (by kernel_rfl))
  f260:=Tryz.func88.trans (congrArg some (by kernel_rfl))
  f266:=Tryz.func89.trans (congrArg some (by kernel_rfl))
  f271:=Tryz.func81.trans (congrArg some (by kernel_rfl))
  t0:=Tryz.underlying0
  a0:=Tryz.isAgg0
  z0:=Tryz.sizeOf0
  v0:=Tryz.zeroValue0
  t3:=Tryz.underlying3
  a3:=Tryz.isAgg3
  z3:=Tryz.sizeOf3
  v3:=Tryz.zeroValue3
  t4:=Tryz.underlying4
  a4:=Tryz.isAgg4
  z4:=Tryz.sizeOf4
  v4:=Tryz.zeroValue4
  t5:=Tryz.underlying5
  a5:=Tryz.isAgg5
  z5:=Tryz.sizeOf5
  v5:=Tryz.zeroValue5
  t9:=Tryz.underlying9
  a9:=Tryz.isAgg9
  z9:=Tryz.sizeOf9
  v9:=Tryz.zeroValue9
  t21:=Tryz.underlying21
  a21:=Tryz.isAgg21
  z21:=Tryz.sizeOf21
  v21:=Tryz.zeroValue21
  t46:=Tryz.underlying106
  a46:=Tryz.isAgg106
  z46:=Tryz.sizeOf106
  v46:=Tryz.zeroValue106
  t105:=Tryz.underlying100
  a105:=Tryz.isAgg100
  z105:=Tryz.sizeOf100
  v105:=Tryz.zeroValue100
  t116:=Tryz.underlying86
  a116:=Tryz.isAgg86
  z116:=Tryz.sizeOf86
  t117:=Tryz.underlying87
  a117:=Tryz.isAgg87
  z117:=Tryz.sizeOf87
  v117:=Tryz.zeroValue87
  t119:=Tryz.underlying131
  a119:=Tryz.isAgg131
  z119:=Tryz.sizeOf131
  t124:=Tryz.underlying90
  a124:=Tryz.isAgg90
  z124:=Tryz.sizeOf90
  v124:=Tryz.zeroValue90
  t138:=Tryz.underlying133
  a138:=Tryz.isAgg133
  z138:=Tryz.sizeOf133
  v138:=Tryz.zeroValue133
  t139:=Tryz.underlying134
  a139:=Tryz.isAgg134
  z139:=Tryz.sizeOf134
  v139:=Tryz.zeroValue134
  g3:=by kernel_rfl
  g4:=by kernel_rfl }
open Go.RowKit in
/-- strings.Trim at an ASCII cutset. -/
theorem Tryz.strings_Trim (s cutset:ByteArray) (w:World) (hs:s.size≤9223372036854775807) (hcs:cutset.size<4294967281) (hascii:∀ (j:Nat) b,cutset.data.toList[j]? = some b→b.toNat<128) :
    Calls Tryz.prog 38 #[.string s,.string cutset] w fun e w'=>e=.returned (.string ⟨(Lib.trimS s.data.toList cutset.data.toList).toArray⟩)∧Below w.heap.size w w':=Any.strings_Trim_laid Tryz.lays160s (by kernel_rfl) s cutset w hs hcs hascii
/-! ### a builder's writing, walked at this program -/
theorem Tryz.bl_size:(Tryz.prog.info? 38).map (·.size)=some 2:=by kernel_rfl
theorem Tryz.bl_lies:liesAt Tryz.prog Tryz.prog.depth 38 (2 / Tryz.prog.cellsOf 38) 0 38 1=true:=by kernel_rfl
theorem Tryz.bl_byte:(Tryz.prog.info? 5).map (fun i=>(i.zero,i.size,i.bytes))=some (some (.int .u8 0),1,1):=by kernel_rfl
set_option maxHeartbeats 1000000 in
set_option maxRecDepth 100000 in
theorem Tryz.bl_used (b:Nat) (w:World) (h0:w.cell? ⟨b,0,none⟩=some (.pointer (some ⟨b,0,none⟩))) :
    Calls Tryz.prog 25 #[.pointer (some ⟨b,0,none⟩)] w fun e w'=>e=.returned (.tuple #[])∧w'=w:=by
  obtain ⟨j,hj,_⟩:=Option.map_eq_some_iff.1 Tryz.bl_size
  go_enter Tryz.func25,Tryz.ntmps25
  go_wp2
  rw [Lib.run_neq_ptr_same w _ Tryz.underlying35 hj]
  go_wp2
  go_end0
  exact ⟨rfl,rfl⟩
set_option maxHeartbeats 1000000 in
set_option maxRecDepth 100000 in
theorem Tryz.bl_fresh (b:Nat) (w:World) (h0:w.cell? ⟨b,0,none⟩=some (.pointer none)) (hsh:w.shape? b=some (38,2)) (hfz:w.frozen? ⟨b,0,none⟩=false) :
    Calls Tryz.prog 25 #[.pointer (some ⟨b,0,none⟩)] w fun e w'=>e=.returned (.tuple #[])∧w'=w.setCell ⟨b,0,none⟩ (.pointer (some ⟨b,0,none⟩)):=by
  obtain ⟨j,hj,hjs⟩:=Option.map_eq_some_iff.1 Tryz.bl_size
  go_enter Tryz.func25,Tryz.ntmps25
  go_wp2
  rw [Lib.run_to_unsafe w ⟨b,0,none⟩ Tryz.underlying35 Tryz.underlying77 hj (by rw [hjs]; decide) hsh (Nat.zero_lt_succ 1)]
  simp only [Result.andThen]
  rw [Oper.upon_value]
  go_wp2
  rw [run_callFunc_extern Tryz.func42 (by kernel_rfl) (by kernel_rfl) (by kernel_rfl) (e:=Extern.AbiNoEscape.same) (by kernel_rfl)]
  rw [Lib.run_noEscape]
  simp only [Result.andThen]
  rw [Oper.upon_value]
  go_wp2
  rw [Lib.run_from_unsafe w ⟨b,0,none⟩ Tryz.underlying77 Tryz.underlying35 hj hsh Tryz.bl_lies]
  simp only [Result.andThen]
  rw [Oper.upon_value]
  go_wp2
  go_end0
  exact ⟨rfl,rfl⟩
theorem Tryz.Builder_copyCheck_k (B b:Nat) (bs:List Value) (w:World) (h:Lib.IsBuilderF 38 5 B b bs w) :
    Calls Tryz.prog 25 #[.pointer (some ⟨b,0,none⟩)] w fun e w'=>e=.returned (.tuple #[])∧(Lib.BuilderAtF 38 5 B b (.pointer (some ⟨b,0,none⟩)) bs w'∧Below B w w'∧Lib.OthersKept 5 (some b) w w'):=by
  rcases h with h | h
  · refine (Tryz.bl_fresh b w h.cell0 h.shape h.frozen0).mono ?_
    rintro e w' ⟨rfl,rfl⟩
    exact ⟨rfl,h.used _,(Below.refl B w).setCell (p:=⟨b,0,none⟩) h.1 _,(Lib.OthersKept.refl _ _ w).setCell ⟨b,0,none⟩ rfl _⟩
  · refine (Tryz.bl_used b w h.cell0).mono ?_
    rintro e w' ⟨rfl,rfl⟩
    exact ⟨rfl,h,Below.refl B _,Lib.OthersKept.refl _ _ _⟩
set_option maxHeartbeats 2000000 in
set_option maxRecDepth 100000 in
theorem Tryz.Builder_WriteString_k (B b:Nat) (bs:List Value) (s:ByteArray) (w:World) (h:Lib.IsBuilderF 38 5 B b bs w) (hlen:bs.length+s.size≤140737488355328) (hBw:B≤w.heap.size) :
    Calls Tryz.prog 11 #[.pointer (some ⟨b,0,none⟩),.string s] w fun e w'=>e=.returned (.tuple #[.int .i64 s.size,.nilIface])∧(Lib.BuilderAtF 38 5 B b (.pointer (some ⟨b,0,none⟩)) (bs++Lib.strCells s) w'∧Below B w w'∧Lib.OthersKept 5 (some b) w w'):=by
  obtain ⟨i0,hi,hz0,hz1,hz2⟩:=info_parts Tryz.bl_byte
  go_enter Tryz.func11,Tryz.ntmps11
  go_wp2_with (first
    | (go_at_call 25; refine (Tryz.Builder_copyCheck_k B b bs _ h).mono ?_; rintro e w1 ⟨rfl,⟨hB,v,hbk,hown,hne⟩,hb1,hk1⟩; have c0:w1.cell? ⟨b,0,none⟩=some (.pointer (some ⟨b,0,none⟩)):=(by rw [Lib.cell_of_heap hbk]; rfl); have c1:w1.cell? ⟨b,1,none⟩=some v:=(by rw [Lib.cell_of_heap hbk]; rfl))
    | (at_builtin; refine Lib.wpList_append_own_stringF _ rfl _ _ 36 9 rfl B 5 i0 Tryz.underlying36 Tryz.underlying9 hi hz0 hz1 hz2 _ _ _ rfl hown s rfl ?c3 ?c4 ?c5 ?_))
  case c3=>unfold maxLen; omega
  case c4=>omega
  case c5=>have:=hb1.size; omega
  intro v' w2 hown' hgrow _
  have hlt:b<w1.heap.size:=by
    rcases Nat.lt_or_ge b w1.heap.size with h' | h'
    · exact h'
    · simp [Array.getElem?_eq_none h'] at hbk
  have hb2:w2.heap[b]? = some (.cells #[.pointer (some ⟨b,0,none⟩),v] 38 (0,0)):=by
    rw [hgrow.block b hlt (fun e=>hne e.symm)]
    exact hbk
  have d0:w2.cell? ⟨b,0,none⟩=some (.pointer (some ⟨b,0,none⟩)):=by rw [Lib.cell_of_heap hb2]; rfl
  have d1:w2.cell? ⟨b,1,none⟩=some v:=by rw [Lib.cell_of_heap hb2]; rfl
  have f1:w2.frozen? ⟨b,1,none⟩=false:=Lib.frozen_of_heap hb2 1
  obtain ⟨ao,n',cap,rfl⟩:∃ ao n' cap,v'=.slice ao n' cap:=by
    rcases hown'.2 with ⟨hv,_⟩ | ⟨g,cap,cur,fz,hv,_⟩
    · exact ⟨_,_,_,hv⟩
    · exact ⟨_,_,_,hv⟩
  go_wp2
  go_ret2
  refine ⟨rfl,?_,?_,(hk1.grown hgrow (Lib.ownsRowF_kind hown)).setCell ⟨b,1,none⟩ rfl _⟩
  · exact Lib.BuilderAtF.put (T:=38) (e:=5) hB hb2 (bs':=bs++Lib.strCells s) (by simpa [Lib.strCells_length] using hown') (by decide)
  · exact (hb1.grown hgrow (by have:=hb1.size; omega) (fun k hk=>(hown.lt k hk).1)).setCell (p:=⟨b,1,none⟩) hB _
set_option maxHeartbeats 2000000 in
set_option maxRecDepth 1000000 in
theorem Tryz.Builder_Grow_fresh (B b n:Nat) (w:World) (hB:B≤b) (hbk:w.heap[b]? = some (.cells #[.pointer none,.slice none 0 0] 38 (0,0))) (hBw:B≤w.heap.size) (hn:n≤281474976710656) :
    Calls Tryz.prog 26 #[.pointer (some ⟨b,0,none⟩),.int .i64 n] w fun e w'=>e=.returned (.tuple #[])∧(Lib.BuilderAt 38 5 B b (.pointer (some ⟨b,0,none⟩)) [] w'∧Below B w w'):=by
  have hbk1:(w.setCell ⟨b,0,none⟩ (.pointer (some ⟨b,0,none⟩))).heap[b]? = some (.cells #[.pointer (some ⟨b,0,none⟩),.slice none 0 0] 38 (0,0)):=by
    simp [World.setCell,Array.getElem?_modify,hbk]
  have c1:(w.setCell ⟨b,0,none⟩ (.pointer (some ⟨b,0,none⟩))).cell? ⟨b,1,none⟩=some (.slice none 0 0):=by rw [Lib.cell_of_heap hbk1]; rfl
  have hb1:Below B w (w.setCell ⟨b,0,none⟩ (.pointer (some ⟨b,0,none⟩))):=(Below.refl B w).setCell (p:=⟨b,0,none⟩) hB _
  go_enter Tryz.func26,Tryz.ntmps26
  have hU:Lib.BuilderAt 38 5 B b (.pointer (some ⟨b,0,none⟩)) [] (w.setCell ⟨b,0,none⟩ (.pointer (some ⟨b,0,none⟩))):=⟨hB,.slice none 0 0,hbk1,World.ownsRow_nil _ _ _ _,by simp [Value.ownBlock]⟩
  have c1':(w.setCell ⟨b,0,none⟩ (.pointer (some ⟨b,0,none⟩))).drew.cell? ⟨b,1,none⟩=some (.slice none 0 0):=c1
  go_wp2_with (go_at_call 25; refine (Tryz.bl_fresh b w (by rw [Lib.cell_of_heap hbk]; rfl) (by simp [World.shape?,hbk]) (Lib.frozen_of_heap hbk 0)).mono ?_; rintro e w' ⟨rfl,rfl⟩)
  go_region
  all_goals go_wp2_with (go_at_call 43; refine (Tryz.Builder_grow_fresh B b n (w.setCell ⟨b,0,none⟩ (.pointer (some ⟨b,0,none⟩))).drew hB hbk1 (by simpa [World.setCell,World.drew,-World.drew_eq] using hBw) hn).mono ?_; rintro e w' ⟨rfl,h1,h2⟩)
  all_goals first
    | (go_end0; exact ⟨rfl,h1,hb1.drew.trans h2⟩)
    | (go_end0; exact ⟨rfl,hU.drew,hb1.drew⟩)
end Go.Proofs.YtdccapcfbielcaaGreatDoor.Shelf
