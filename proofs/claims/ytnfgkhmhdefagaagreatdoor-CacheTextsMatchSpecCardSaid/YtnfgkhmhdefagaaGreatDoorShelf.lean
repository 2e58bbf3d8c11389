/- Contracts of the shelf, laid at this program. -/
import Derived.Shelf.Strings.Builder1
import Derived.Shelf.Strings.Builder2
import Derived.Shelf.Strings.OnBuilder
import Derived.Shelf.Strings.Trim
import Derived.Shelf.Small.Utf8
import Derived.Shelf.Small.Strs
import Derived.Shelf.Strings.BuilderF
import Derived.Shelf.Strings.BuilderK
import Derived.Shelf.Utf8.RuneCount
import Derived.Shelf.Strings.Builder2Cap
import Derived.Shelf.Strconv.Atoi
import Derived.Shelf.Strconv.Itoa0
import Derived.Shelf.Strconv.Itoa1
import Derived.Shelf.LaysM
import Derived.Shelf.Strconv.Itoa2
import Derived.Shelf.Strconv.Itoa3
import Derived.Shelf.Strconv.AtoiErrFast
import Derived.Shelf.Strconv.ParseIntEmpty
import Derived.Shelf.Strconv.AtoiFail
import Derived.Shelf.Strconv.Clone
import Derived.Shelf.Strconv.SyntaxError
import Derived.Shelf.LaysC
import Derived.Shelf.Strconv.ToError
import Derived.Shelf.Strconv.AtoiErr
import Derived.Shelf.Strconv.Lower
import Derived.Shelf.Strconv.ParseUint10
import Derived.Shelf.Strconv.ParseUint10Empty
import Derived.Shelf.Strconv.ParseUint10Any
import Derived.Shelf.Strconv.ParseInt10
import Derived.Shelf.Strconv.RangeError
import Derived.Shelf.Strconv.ToErrorRange
import Derived.Shelf.Strconv.ParseUintEmpty
import Derived.Shelf.Strconv.ParseUint10b64
import Derived.Shelf.Strconv.ParseUint10b32
import Derived.Shelf.Strconv.ParseUint10b16
import Derived.Shelf.Strconv.ParseUint10b8
import Derived.Shelf.Strconv.ParseUint10At
import Derived.Shelf.Strconv.ParseInt10At64
import Derived.Shelf.Strconv.ParseInt10At32
import Derived.Shelf.Strconv.ParseInt10At16
import Derived.Shelf.Strconv.ParseInt10At8
import Derived.Shelf.Strings.Search1
import Derived.Shelf.Strings.Search2
import Derived.Shelf.Strings.Search3
import Derived.Shelf.Strings.Cut
import Derived.Shelf.Strings.Count
import Derived.Shelf.Strings.Shaped
import Derived.Shelf.Strings.Split
import Derived.Shelf.Strings.SplitShaped
import Derived.Shelf.Unicode.Decode
import Derived.Shelf.Strings.Runes
import Derived.Shelf.Strings.RuneCount
import Derived.Shelf.Strings.AsciiSet
import Derived.Shelf.Strings.Explode
import Derived.Shelf.Unicode.DecodeSlow
import Derived.Shelf.Unicode.DecodeAny
import Derived.Shelf.Unicode.DecodeLast
import Derived.Shelf.Strings.BuilderCap
import Derived.Shelf.Slices.Clone
import Derived.Shelf.SlicesE.Clone
import Derived.Shelf.Strings.SlTrimAscii
import Derived.Shelf.Strings.BuilderK
import Derived.WalkKit
import Derived.Test.YtnfgkhmhdefagaaGreatDoorProg
namespace Go.Proofs.YtnfgkhmhdefagaaGreatDoor.Shelf
open Go.Proofs Go.RowKit
open Go.Shelf
def Tryz.lays170_ren:Go.Shelf.Ren:=⟨fun | 170=>18 | n=>n,fun | 70=>43 | 3=>3 | 0=>0 | 72=>46 | 37=>44 | 5=>5 | n=>n,fun | n=>n⟩
theorem Tryz.lays170:Go.Proofs.Lays.n170 Tryz.prog Tryz.lays170_ren:={
  mixed:=by kernel_rfl
  f170:=Tryz.func18.trans (congrArg some (by kernel_rfl))
  t0:=Tryz.underlying0
  a0:=Tryz.isAgg0
  z0:=Tryz.sizeOf0
  v0:=Tryz.zeroValue0
  t3:=Tryz.underlying3
  a3:=Tryz.isAgg3
  z3:=Tryz.sizeOf3
  v3:=Tryz.zeroValue3
  t37:=Tryz.underlying44
  a37:=Tryz.isAgg44
  z37:=Tryz.sizeOf44
  v37:=Tryz.zeroValue44
  t70:=Tryz.underlying43
  a70:=Tryz.isAgg43
  z70:=Tryz.sizeOf43
  v70:=Tryz.zeroValue43
  t72:=Tryz.underlying46
  a72:=Tryz.isAgg46
  z72:=Tryz.sizeOf46
  v72:=Tryz.zeroValue46 }
def Tryz.lays169_ren:Go.Shelf.Ren:=⟨fun | 169=>19 | n=>n,fun | 70=>43 | 9=>9 | 0=>0 | 72=>46 | 37=>44 | 127=>70 | 3=>3 | 5=>5 | n=>n,fun | n=>n⟩
theorem Tryz.lays169:Go.Proofs.Lays.n169 Tryz.prog Tryz.lays169_ren:={
  mixed:=by kernel_rfl
  f169:=Tryz.func19.trans (congrArg some (by kernel_rfl))
  t0:=Tryz.underlying0
  a0:=Tryz.isAgg0
  z0:=Tryz.sizeOf0
  v0:=Tryz.zeroValue0
  t3:=Tryz.underlying3
  a3:=Tryz.isAgg3
  z3:=Tryz.sizeOf3
  v3:=Tryz.zeroValue3
  t9:=Tryz.underlying9
  a9:=Tryz.isAgg9
  z9:=Tryz.sizeOf9
  v9:=Tryz.zeroValue9
  t37:=Tryz.underlying44
  a37:=Tryz.isAgg44
  z37:=Tryz.sizeOf44
  v37:=Tryz.zeroValue44
  t70:=Tryz.underlying43
  a70:=Tryz.isAgg43
  z70:=Tryz.sizeOf43
  v70:=Tryz.zeroValue43
  t72:=Tryz.underlying46
  a72:=Tryz.isAgg46
  z72:=Tryz.sizeOf46
  v72:=Tryz.zeroValue46
  t127:=Tryz.underlying70
  a127:=Tryz.isAgg70
  z127:=Tryz.sizeOf70
  v127:=Tryz.zeroValue70 }
theorem Tryz.Builder_Extra_169:Builder.Extra Tryz.prog Tryz.lays169_ren:={
  sizeBuilder:=by kernel_rfl
  liesBuilder:=by kernel_rfl
  t5:=Tryz.underlying5
  a5:=Tryz.isAgg5
  z5:=Tryz.sizeOf5
  v5:=Tryz.zeroValue5
  infoByte:=by kernel_rfl
  cellsByte:=by kernel_rfl
  sizeByte:=by kernel_rfl
  neB5:=by decide }
def Tryz.lays241_ren:Go.Shelf.Ren:=⟨fun | 241=>46 | 277=>62 | n=>n,fun | 70=>43 | 3=>3 | 0=>0 | 72=>46 | 37=>44 | 5=>5 | n=>n,fun | n=>n⟩
theorem Tryz.lays241:Go.Proofs.Lays.n241 Tryz.prog Tryz.lays241_ren:={
  mixed:=by kernel_rfl
  f241:=Tryz.func46.trans (congrArg some (by kernel_rfl))
  f277:=Tryz.func62.trans (congrArg some (by kernel_rfl))
  t0:=Tryz.underlying0
  a0:=Tryz.isAgg0
  z0:=Tryz.sizeOf0
  v0:=Tryz.zeroValue0
  t3:=Tryz.underlying3
  a3:=Tryz.isAgg3
  z3:=Tryz.sizeOf3
  v3:=Tryz.zeroValue3
  t37:=Tryz.underlying44
  a37:=Tryz.isAgg44
  z37:=Tryz.sizeOf44
  v37:=Tryz.zeroValue44
  t70:=Tryz.underlying43
  a70:=Tryz.isAgg43
  z70:=Tryz.sizeOf43
  v70:=Tryz.zeroValue43
  t72:=Tryz.underlying46
  a72:=Tryz.isAgg46
  z72:=Tryz.sizeOf46
  v72:=Tryz.zeroValue46 }
theorem Tryz.Builder_Extra_241:Builder.Extra Tryz.prog Tryz.lays241_ren:={
  sizeBuilder:=by kernel_rfl
  liesBuilder:=by kernel_rfl
  t5:=Tryz.underlying5
  a5:=Tryz.isAgg5
  z5:=Tryz.sizeOf5
  v5:=Tryz.zeroValue5
  infoByte:=by kernel_rfl
  cellsByte:=by kernel_rfl
  sizeByte:=by kernel_rfl
  neB5:=by decide }
open Go.RowKit in
/-- (*strings.Builder).grow (no doc but "grow copies the buffer to a new, larger buffer so that there are at least n bytes of capacity beyond len(b.buf)."): AT A BUILDER WITHOUT A BUFFER: a new row of whatever bytes for its buffer, none of them its own yet. Three draws. (LAID: no walk: one application.) -/
theorem Tryz.Builder_grow_fresh (B b n:Nat) (w:World) (hB:B≤b) (hbk:w.heap[b]? = some (.cells #[.pointer (some ⟨b,0,none⟩),.slice none 0 0] 46 (0,0))) (hBw:B≤w.heap.size) (hn:n≤281474976710656) :
    Calls Tryz.prog 46 #[.pointer (some ⟨b,0,none⟩),.int .i64 n] w fun e w'=>e=.returned (.tuple #[])∧(Lib.BuilderAt 46 5 B b (.pointer (some ⟨b,0,none⟩)) [] w'∧Below B w w'):=Any.Builder_grow_fresh Tryz.lays241 Tryz.Builder_Extra_241 B b n w hB hbk hBw hn
open Go.RowKit in
/-- (*strings.Builder).Len: "Len returns the number of accumulated bytes; b.Len() == len(b.String()).": the world is as it was. (THE FORM '_f': 'Lib.IsBuilderF'.) (LAID: no walk: one application.) -/
theorem Tryz.Builder_Len_f (B b:Nat) (bs:List Value) (w:World) (h:Lib.IsBuilderF 46 5 B b bs w) :
    Calls Tryz.prog 18 #[.pointer (some ⟨b,0,none⟩)] w fun e w'=>e=.returned (.int .i64 bs.length)∧w'=w:=Any.Builder_Len_f Tryz.lays170 B b bs w h
open Go.RowKit in
/-- (*strings.Builder).String: "String returns the accumulated string.": WHATEVER THE BUILDER HOLDS; THE FORM '_k': OVER 'Lib.IsBuilderF' (a builder that 'String()' may have read), AND WITH THE FRAME THAT REACHES ABOVE THE BUILDER: 'Lib.OthersKept': every block that is not b and is no row of uint8's stands as it stood: the iterator of a range among them. (LAID: no walk: one application.) -/
theorem Tryz.Builder_String_any_k (B b:Nat) (l:List UInt8) (w:World) (h:Lib.IsBuilderF 46 5 B b (Lib.byteCells l) w) (hBw:B≤w.heap.size) :
    Calls Tryz.prog 19 #[.pointer (some ⟨b,0,none⟩)] w fun e w'=>e=.returned (.string ⟨l.toArray⟩)∧(Lib.IsBuilderF 46 5 B b (Lib.byteCells l) w'∧Below B w w'∧Lib.OthersKept 5 (some b) w w'):=Any.Builder_String_any_k Tryz.lays169 Tryz.Builder_Extra_169 B b l w h hBw
def Tryz.lays172_ren:Go.Shelf.Ren:=⟨fun | 172=>50 | 244=>70 | 245=>71 | 247=>85 | 279=>86 | 280=>87 | 281=>88 | 282=>89 | 287=>95 | 316=>96 | 171=>14 | 205=>97 | 321=>100 | 322=>101 | 243=>31 | 246=>44 | 283=>58 | 284=>59 | 285=>60 | 286=>61 | 129=>77 | 317=>76 | 318=>78 | 319=>79 | 320=>80 | 337=>93 | 338=>94 | n=>n,fun | 9=>9 | 3=>3 | 75=>49 | 76=>50 | 4=>4 | 5=>5 | 167=>116 | 37=>44 | 0=>0 | 85=>117 | 2=>2 | 168=>119 | 53=>93 | 175=>124 | 46=>101 | 210=>128 | 127=>70 | 145=>140 | 143=>138 | 21=>21 | 171=>92 | 173=>96 | 212=>109 | 51=>110 | 20=>20 | 213=>111 | 232=>135 | 233=>136 | 80=>55 | n=>n,fun | 15=>2 | 16=>3 | 17=>1 | 18=>6 | 19=>7 | n=>n⟩
theorem Tryz.lays172:Go.Proofs.Lays.n172 Tryz.prog Tryz.lays172_ren:={
  mixed:=by kernel_rfl
  f129:=Tryz.func77.trans (congrArg some (by kernel_rfl))
  f171:=Tryz.func14.trans (congrArg some (by kernel_rfl))
  f172:=Tryz.func50.trans (congrArg some (by kernel_rfl))
  f205:=Tryz.func97.trans (congrArg some (by kernel_rfl))
  f243:=Tryz.func31.trans (congrArg some (by kernel_rfl))
  f244:=Tryz.func70.trans (congrArg some (by kernel_rfl))
  f245:=Tryz.func71.trans (congrArg some (by kernel_rfl))
  f246:=Tryz.func44.trans (congrArg some (by kernel_rfl))
  f247:=Tryz.func85.trans (congrArg some (by kernel_rfl))
  f279:=Tryz.func86.trans (congrArg some (by kernel_rfl))
  f280:=Tryz.func87.trans (congrArg some (by kernel_rfl))
  f281:=Tryz.func88.trans (congrArg some (by kernel_rfl))
  f282:=Tryz.func89.trans (congrArg some (by kernel_rfl))
  f283:=Tryz.func58.trans (congrArg some (by kernel_rfl))
  f284:=Tryz.func59.trans (congrArg some (by kernel_rfl))
  f285:=Tryz.func60.trans (congrArg some (by kernel_rfl))
  f286:=Tryz.func61.trans (congrArg some (by kernel_rfl))
  f287:=Tryz.func95.trans (congrArg some (by kernel_rfl))
  f316:=Tryz.func96.trans (congrArg some (by kernel_rfl))
  f317:=Tryz.func76.trans (congrArg some (by kernel_rfl))
  f318:=Tryz.func78.trans (congrArg some (by kernel_rfl))
  f319:=Tryz.func79.trans (congrArg some (by kernel_rfl))
  f320:=Tryz.func80.trans (congrArg some (by kernel_rfl))
  f321:=Tryz.func100.trans (congrArg some (by kernel_rfl))
  f322:=Tryz.func101.trans (congrArg some (by kernel_rfl))
  f337:=Tryz.func93.trans (congrArg some (by kernel_rfl))
  f338:=Tryz.func94.trans (congrArg some (by kernel_rfl))
  t0:=Tryz.underlying0
  a0:=Tryz.isAgg0
  z0:=Tryz.sizeOf0
  v0:=Tryz.zeroValue0
  t2:=Tryz.underlying2
  a2:=Tryz.isAgg2
  z2:=Tryz.sizeOf2
  v2:=Tryz.zeroValue2
  t3:=Tryz.underlying3
  a3:=Tryz.isAgg3
  z3:=Tryz.sizeOf3
  v3:=Tryz.zeroValue3
  t4:=Tryz.underlying4
  a4:=Tryz.isAgg4
  z4:=Tryz.sizeOf4
  v4:=Tryz.zeroValue4
  t5:=Tryz.underlying5
  a5:=Tryz.isAgg5
  z5:=Tryz.sizeOf5
  v5:=Tryz.zeroValue5
  t9:=Tryz.underlying9
  a9:=Tryz.isAgg9
  z9:=Tryz.sizeOf9
  v9:=Tryz.zeroValue9
  t20:=Tryz.underlying20
  a20:=Tryz.isAgg20
  z20:=Tryz.sizeOf20
  v20:=Tryz.zeroValue20
  t21:=Tryz.underlying21
  a21:=Tryz.isAgg21
  z21:=Tryz.sizeOf21
  v21:=Tryz.zeroValue21
  t37:=Tryz.underlying44
  a37:=Tryz.isAgg44
  z37:=Tryz.sizeOf44
  v37:=Tryz.zeroValue44
  t46:=Tryz.underlying101
  a46:=Tryz.isAgg101
  z46:=Tryz.sizeOf101
  v46:=Tryz.zeroValue101
  t51:=Tryz.underlying110
  a51:=Tryz.isAgg110
  z51:=Tryz.sizeOf110
  v51:=Tryz.zeroValue110
  t53:=Tryz.underlying93
  a53:=Tryz.isAgg93
  z53:=Tryz.sizeOf93
  v53:=Tryz.zeroValue93
  t75:=Tryz.underlying49
  a75:=Tryz.isAgg49
  z75:=Tryz.sizeOf49
  v75:=Tryz.zeroValue49
  t76:=Tryz.underlying50
  a76:=Tryz.isAgg50
  z76:=Tryz.sizeOf50
  v76:=Tryz.zeroValue50
  t85:=Tryz.underlying117
  a85:=Tryz.isAgg117
  z85:=Tryz.sizeOf117
  v85:=Tryz.zeroValue117
  t127:=Tryz.underlying70
  a127:=Tryz.isAgg70
  z127:=Tryz.sizeOf70
  v127:=Tryz.zeroValue70
  t143:=Tryz.underlying138
  a143:=Tryz.isAgg138
  z143:=Tryz.sizeOf138
  v143:=Tryz.zeroValue138
  t145:=Tryz.underlying140
  a145:=Tryz.isAgg140
  z145:=Tryz.sizeOf140
  v145:=Tryz.zeroValue140
  t167:=Tryz.underlying116
  a167:=Tryz.isAgg116
  z167:=Tryz.sizeOf116
  v167:=Tryz.zeroValue116
  t168:=Tryz.underlying119
  a168:=Tryz.isAgg119
  z168:=Tryz.sizeOf119
  v168:=Tryz.zeroValue119
  t171:=Tryz.underlying92
  a171:=Tryz.isAgg92
  z171:=Tryz.sizeOf92
  v171:=Tryz.zeroValue92
  t173:=Tryz.underlying96
  a173:=Tryz.isAgg96
  z173:=Tryz.sizeOf96
  v173:=Tryz.zeroValue96
  t175:=Tryz.underlying124
  a175:=Tryz.isAgg124
  z175:=Tryz.sizeOf124
  v175:=Tryz.zeroValue124
  t210:=Tryz.underlying128
  a210:=Tryz.isAgg128
  z210:=Tryz.sizeOf128
  v210:=Tryz.zeroValue128
  t212:=Tryz.underlying109
  a212:=Tryz.isAgg109
  z212:=Tryz.sizeOf109
  v212:=Tryz.zeroValue109
  t213:=Tryz.underlying111
  a213:=Tryz.isAgg111
  z213:=Tryz.sizeOf111
  t232:=Tryz.underlying135
  a232:=Tryz.isAgg135
  z232:=Tryz.sizeOf135
  v232:=Tryz.zeroValue135
  t233:=Tryz.underlying136
  a233:=Tryz.isAgg136
  z233:=Tryz.sizeOf136
  v233:=Tryz.zeroValue136
  g15:=by kernel_rfl
  g16:=by kernel_rfl
  g17:=by kernel_rfl
  g18:=by kernel_rfl
  g19:=by kernel_rfl }
open Go.RowKit in
/-- strconv.Atoi: "Atoi is equivalent to ParseInt(s, 10, 0), converted to type int.": AT A DECIMAL NUMERAL OF AT MOST 18 BYTES: its value, and a nil error. The world behind the call: the one new row that the library's '[]byte(s)' lays. (LAID: no walk: one application.) -/
theorem Tryz.strconv_Atoi (s:ByteArray) (n:Int) (hl:s.size≤18) (h:Lib.atoi s.data.toList=some n) (w:World) :
    Calls Tryz.prog 50 #[.string s] w fun e w'=>e=.returned (.tuple #[.int .i64 n,.nilIface])∧∃ t,w'=Lib.bytesWorld w 5 t:=Any.strconv_Atoi Tryz.lays172 s n hl h w
def Tryz.laysM171_ren:Go.Shelf.Ren:=⟨fun | 171=>14 | 243=>31 | 246=>44 | 283=>58 | 284=>59 | 285=>60 | 286=>61 | 129=>77 | 317=>76 | 318=>78 | 319=>79 | 320=>80 | 337=>93 | 338=>94 | n=>n,fun | 3=>3 | 9=>9 | 2=>2 | 4=>4 | 171=>92 | 0=>0 | 53=>93 | 37=>44 | 5=>5 | 173=>96 | 212=>109 | 51=>110 | 20=>20 | 213=>111 | 46=>101 | 232=>135 | 233=>136 | n=>n,fun | 17=>1 | 18=>6 | 19=>7 | n=>n⟩
theorem Tryz.laysM171:Go.Proofs.LaysM.n171 Tryz.prog Tryz.laysM171_ren:={
  mixed:=by kernel_rfl
  f129:=Tryz.func77.trans (congrArg some (by kernel_rfl))
  f171:=Tryz.func14.trans (congrArg some (by kernel_rfl))
  f243:=Tryz.func31.trans (congrArg some (by kernel_rfl))
  f246:=Tryz.func44.trans (congrArg some (by kernel_rfl))
  f283:=Tryz.func58.trans (congrArg some (by kernel_rfl))
  f284:=Tryz.func59.trans (congrArg some (by kernel_rfl))
  f285:=Tryz.func60.trans (congrArg some (by kernel_rfl))
  f286:=Tryz.func61.trans (congrArg some (by kernel_rfl))
  f317:=Tryz.func76.trans (congrArg some (by kernel_rfl))
  f318:=Tryz.func78.trans (congrArg some (by kernel_rfl))
  f319:=Tryz.func79.trans (congrArg some (by kernel_rfl))
  f320:=Tryz.func80.trans (congrArg some (by kernel_rfl))
  f337:=Tryz.func93.trans (congrArg some (by kernel_rfl))
  f338:=Tryz.func94.trans (congrArg some (by kernel_rfl))
  t0:=Tryz.underlying0
  a0:=Tryz.isAgg0
  z0:=Tryz.sizeOf0
  v0:=Tryz.zeroValue0
  t2:=Tryz.underlying2
  a2:=Tryz.isAgg2
  z2:=Tryz.sizeOf2
  v2:=Tryz.zeroValue2
  t3:=Tryz.underlying3
  a3:=Tryz.isAgg3
  z3:=Tryz.sizeOf3
  v3:=Tryz.zeroValue3
  t4:=Tryz.underlying4
  a4:=Tryz.isAgg4
  z4:=Tryz.sizeOf4
  v4:=Tryz.zeroValue4
  t5:=Tryz.underlying5
  a5:=Tryz.isAgg5
  z5:=Tryz.sizeOf5
  v5:=Tryz.zeroValue5
  t9:=Tryz.underlying9
  a9:=Tryz.isAgg9
  z9:=Tryz.sizeOf9
  v9:=Tryz.zeroValue9
  t20:=Tryz.underlying20
  a20:=Tryz.isAgg20
  z20:=Tryz.sizeOf20
  v20:=Tryz.zeroValue20
  t37:=Tryz.underlying44
  a37:=Tryz.isAgg44
  z37:=Tryz.sizeOf44
  v37:=Tryz.zeroValue44
  t46:=Tryz.underlying101
  a46:=Tryz.isAgg101
  z46:=Tryz.sizeOf101
  v46:=Tryz.zeroValue101
  t51:=Tryz.underlying110
  a51:=Tryz.isAgg110
  z51:=Tryz.sizeOf110
  v51:=Tryz.zeroValue110
  t53:=Tryz.underlying93
  a53:=Tryz.isAgg93
  z53:=Tryz.sizeOf93
  v53:=Tryz.zeroValue93
  t171:=Tryz.underlying92
  a171:=Tryz.isAgg92
  z171:=Tryz.sizeOf92
  v171:=Tryz.zeroValue92
  t173:=Tryz.underlying96
  a173:=Tryz.isAgg96
  z173:=Tryz.sizeOf96
  v173:=Tryz.zeroValue96
  t212:=Tryz.underlying109
  a212:=Tryz.isAgg109
  z212:=Tryz.sizeOf109
  v212:=Tryz.zeroValue109
  t213:=Tryz.underlying111
  a213:=Tryz.isAgg111
  z213:=Tryz.sizeOf111
  t232:=Tryz.underlying135
  a232:=Tryz.isAgg135
  z232:=Tryz.sizeOf135
  v232:=Tryz.zeroValue135
  t233:=Tryz.underlying136
  a233:=Tryz.isAgg136
  z233:=Tryz.sizeOf136
  v233:=Tryz.zeroValue136
  g17:=by kernel_rfl
  g18:=by kernel_rfl
  g19:=by kernel_rfl
  i0:=by kernel_rfl
  i2:=by kernel_rfl
  i3:=by kernel_rfl
  i4:=by kernel_rfl
  i5:=by kernel_rfl
  i9:=by kernel_rfl
  i20:=by kernel_rfl
  i37:=by kernel_rfl
  i46:=by kernel_rfl
  i51:=by kernel_rfl
  i53:=by kernel_rfl
  i171:=by kernel_rfl
  i173:=by kernel_rfl
  i212:=by kernel_rfl
  i232:=by kernel_rfl
  i233:=by kernel_rfl
  m17:=by kernel_rfl
  m18:=by kernel_rfl
  m19:=by kernel_rfl }
open Go.RowKit Go.Sort Go.Lib in
/-- strconv.Itoa: "Itoa is equivalent to FormatInt(int64(i), 10).": i's DECIMAL NUMERAL ('Lib.itoa': a '-' where i is negative, then the digits), FOR EVERY int. The world behind the call: the world before it, new blocks behind the heap (the library's 'var a [24]byte'), draws. (LAID: no walk: one application.) -/
theorem Tryz.strconv_Itoa (n : Int) (h0 : -9223372036854775808 ≤ n) (h1 : n ≤ 9223372036854775807) (w : World) (htab : Lib.TabIs Tryz.prog w "internal/strconv.uint64pow10" .u64 Lib.pow10Tab) :
    Calls Tryz.prog 14 #[.int .i64 n] w fun e w'=>e=.returned (.string ⟨(Lib.itoa n).toArray⟩)∧∃ k os,w'=grow (w.drewN k) os:=Any.strconv_Itoa Tryz.laysM171 n h0 h1 w htab
def Tryz.lays219_ren:Go.Shelf.Ren:=⟨fun | 219=>47 | 217=>63 | 225=>64 | 224=>65 | 267=>66 | 266=>81 | 314=>82 | n=>n,fun | 9=>9 | 3=>3 | 4=>4 | 5=>5 | 46=>101 | 146=>113 | 51=>110 | n=>n,fun | 1=>0 | n=>n⟩
theorem Tryz.lays219:Go.Proofs.Lays.n219 Tryz.prog Tryz.lays219_ren:={
  mixed:=by kernel_rfl
  f217:=Tryz.func63.trans (congrArg some (by kernel_rfl))
  f219:=Tryz.func47.trans (congrArg some (by kernel_rfl))
  f224:=Tryz.func65.trans (congrArg some (by kernel_rfl))
  f225:=Tryz.func64.trans (congrArg some (by kernel_rfl))
  f266:=Tryz.func81.trans (congrArg some (by kernel_rfl))
  f267:=Tryz.func66.trans (congrArg some (by kernel_rfl))
  f314:=Tryz.func82.trans (congrArg some (by kernel_rfl))
  t3:=Tryz.underlying3
  a3:=Tryz.isAgg3
  z3:=Tryz.sizeOf3
  v3:=Tryz.zeroValue3
  t4:=Tryz.underlying4
  a4:=Tryz.isAgg4
  z4:=Tryz.sizeOf4
  v4:=Tryz.zeroValue4
  t5:=Tryz.underlying5
  a5:=Tryz.isAgg5
  z5:=Tryz.sizeOf5
  v5:=Tryz.zeroValue5
  t9:=Tryz.underlying9
  a9:=Tryz.isAgg9
  z9:=Tryz.sizeOf9
  v9:=Tryz.zeroValue9
  t46:=Tryz.underlying101
  a46:=Tryz.isAgg101
  z46:=Tryz.sizeOf101
  v46:=Tryz.zeroValue101
  t51:=Tryz.underlying110
  a51:=Tryz.isAgg110
  z51:=Tryz.sizeOf110
  v51:=Tryz.zeroValue110
  t146:=Tryz.underlying113
  a146:=Tryz.isAgg113
  z146:=Tryz.sizeOf113
  v146:=Tryz.zeroValue113
  g1:=by kernel_rfl }
open Go.RowKit Go.Lib in
/-- internal/stringslite.Index (what strings.Index calls) AT A substr OF ONE BYTE c: IT RETURNS 'Lib.indexByte s c'; the world is as it was. (LAID: no walk: one application.) -/
theorem Tryz.stringslite_Index_one (s:ByteArray) (c:UInt8) (w:World) :
    Calls Tryz.prog 47 #[.string s,.string ⟨#[c]⟩] w fun e w'=>e=.returned (.int .i64 (Lib.indexByte s.data.toList c))∧w'=w:=Any.stringslite_Index_one Tryz.lays219 s c w
open Go.RowKit Go.Lib in
/-- internal/stringslite.Index (what strings.Index calls) AT A substr OF WHATEVER LENGTH: IT RETURNS 'Lib.index s substr'; the world is as it was. 'm': what internal/bytealg.MaxLen holds: whatever. (LAID: no walk: one application.) -/
theorem Tryz.stringslite_Index (s sub:ByteArray) (m:Int) (w:World) (hs:s.size<4294967281) (hm:w.cell? ⟨0,0,none⟩=some (.int .i64 m)) :
    Calls Tryz.prog 47 #[.string s,.string sub] w fun e w'=>e=.returned (.int .i64 (Lib.index s.data.toList sub.data.toList))∧w'=w:=Any.stringslite_Index Tryz.lays219 s sub m w hs hm
def Tryz.lays146_ren:Go.Shelf.Ren:=⟨fun | 146=>39 | 221=>48 | 268=>67 | 138=>68 | 143=>69 | 195=>83 | 197=>73 | 218=>84 | 219=>47 | 260=>90 | 217=>63 | 225=>64 | 224=>65 | 267=>66 | 266=>81 | 314=>82 | n=>n,fun | 9=>9 | 31=>38 | 3=>3 | 4=>4 | 0=>0 | 105=>105 | 21=>21 | 5=>5 | 46=>101 | 119=>130 | 139=>133 | 138=>132 | 146=>113 | 51=>110 | n=>n,fun | 1=>0 | 3=>4 | 4=>5 | n=>n⟩
theorem Tryz.lays146:Go.Proofs.Lays.n146 Tryz.prog Tryz.lays146_ren:={
  mixed:=by kernel_rfl
  f138:=Tryz.func68.trans (congrArg some (by kernel_rfl))
  f143:=Tryz.func69.trans (congrArg some (by kernel_rfl))
  f146:=Tryz.func39.trans (congrArg some (by kernel_rfl))
  f195:=Tryz.func83.trans (congrArg some (by kernel_rfl))
  f197:=Tryz.func73.trans (congrArg some (by kernel_rfl))
  f217:=Tryz.func63.trans (congrArg some (by kernel_rfl))
  f218:=Tryz.func84.trans (congrArg some (by kernel_rfl))
  f219:=Tryz.func47.trans (congrArg some (by kernel_rfl))
  f221:=Tryz.func48.trans (congrArg some (by kernel_rfl))
  f224:=Tryz.func65.trans (congrArg some (by kernel_rfl))
  f225:=Tryz.func64.trans (congrArg some (by kernel_rfl))
  f260:=Tryz.func90.trans (congrArg some (by kernel_rfl))
  f266:=Tryz.func81.trans (congrArg some (by kernel_rfl))
  f267:=Tryz.func66.trans (congrArg some (by kernel_rfl))
  f268:=Tryz.func67.trans (congrArg some (by kernel_rfl))
  f314:=Tryz.func82.trans (congrArg some (by kernel_rfl))
  t0:=Tryz.underlying0
  a0:=Tryz.isAgg0
  z0:=Tryz.sizeOf0
  v0:=Tryz.zeroValue0
  t3:=Tryz.underlying3
  a3:=Tryz.isAgg3
  z3:=Tryz.sizeOf3
  v3:=Tryz.zeroValue3
  t4:=Tryz.underlying4
  a4:=Tryz.isAgg4
  z4:=Tryz.sizeOf4
  v4:=Tryz.zeroValue4
  t5:=Tryz.underlying5
  a5:=Tryz.isAgg5
  z5:=Tryz.sizeOf5
  v5:=Tryz.zeroValue5
  t9:=Tryz.underlying9
  a9:=Tryz.isAgg9
  z9:=Tryz.sizeOf9
  v9:=Tryz.zeroValue9
  t21:=Tryz.underlying21
  a21:=Tryz.isAgg21
  z21:=Tryz.sizeOf21
  v21:=Tryz.zeroValue21
  t31:=Tryz.underlying38
  a31:=Tryz.isAgg38
  z31:=Tryz.sizeOf38
  v31:=Tryz.zeroValue38
  t46:=Tryz.underlying101
  a46:=Tryz.isAgg101
  z46:=Tryz.sizeOf101
  v46:=Tryz.zeroValue101
  t51:=Tryz.underlying110
  a51:=Tryz.isAgg110
  z51:=Tryz.sizeOf110
  v51:=Tryz.zeroValue110
  t105:=Tryz.underlying105
  a105:=Tryz.isAgg105
  z105:=Tryz.sizeOf105
  v105:=Tryz.zeroValue105
  t119:=Tryz.underlying130
  a119:=Tryz.isAgg130
  z119:=Tryz.sizeOf130
  t138:=Tryz.underlying132
  a138:=Tryz.isAgg132
  z138:=Tryz.sizeOf132
  v138:=Tryz.zeroValue132
  t139:=Tryz.underlying133
  a139:=Tryz.isAgg133
  z139:=Tryz.sizeOf133
  v139:=Tryz.zeroValue133
  t146:=Tryz.underlying113
  a146:=Tryz.isAgg113
  z146:=Tryz.sizeOf113
  v146:=Tryz.zeroValue113
  g1:=by kernel_rfl
  g3:=by kernel_rfl
  g4:=by kernel_rfl }
open Go.RowKit Go.Lib in
/-- strings.Split. (LAID: no walk: one application.) -/
theorem Tryz.strings_Split (s sep:ByteArray) (m:Int) (w:World) (hs:s.size<4294967281) (hm:w.cell? ⟨0,0,none⟩=some (.int .i64 m)) (h1:1≤sep.size) :
    Calls Tryz.prog 39 #[.string s,.string sep] w fun e w' =>
      e=.returned (.slice (some ⟨w.heap.size,0,none⟩) (Lib.countB s sep+1) (Lib.countB s sep+1))∧w'=w.alloc (.cells ((Lib.splitB sep 0 (Lib.countB s sep) s).map Value.string).toArray 9):=Any.strings_Split Tryz.lays146 (by kernel_rfl) s sep m w hs hm h1
def Tryz.lays160s_ren:Go.Shelf.Ren:=⟨fun | 160=>43 | 232=>52 | 231=>51 | 227=>53 | 234=>55 | 233=>54 | 236=>57 | 235=>56 | 228=>72 | 271=>75 | 151=>74 | 197=>73 | 120=>92 | 152=>91 | 260=>90 | 137=>98 | 119=>99 | 224=>65 | 225=>64 | 217=>63 | 266=>81 | n=>n,fun | 9=>9 | 4=>4 | 3=>3 | 5=>5 | 117=>88 | 116=>87 | 0=>0 | 124=>91 | 21=>21 | 105=>105 | 46=>101 | 119=>130 | 139=>133 | 138=>132 | n=>n,fun | 3=>4 | 4=>5 | n=>n⟩
theorem Tryz.lays160s:Go.Proofs.Lays.n160 Tryz.prog Tryz.lays160s_ren:={
  mixed:=by kernel_rfl
  f119:=Tryz.func99.trans (congrArg some (by kernel_rfl))
  f120:=Tryz.func92.trans (congrArg some (by kernel_rfl))
  f137:=Tryz.func98.trans (congrArg some (by kernel_rfl))
  f151:=Tryz.func74.trans (congrArg some (by kernel_rfl))
  f152:=Tryz.func91.trans (congrArg some (by kernel_rfl))
  f160:=Tryz.func43.trans (congrArg some (by kernel_rfl))
  f197:=Tryz.func73.trans (congrArg some (by kernel_rfl))
  f217:=Tryz.func63.trans (congrArg some (by kernel_rfl))
  f224:=Tryz.func65.trans (congrArg some (by kernel_rfl))
  f225:=Tryz.func64.trans (congrArg some (by kernel_rfl))
  f227:=Tryz.func53.trans (congrArg some (by kernel_rfl))
  f228:=Tryz.func72.trans (congrArg some (by kernel_rfl))
  f231:=Tryz.func51.trans (congrArg some (by kernel_rfl))
  f232:=Tryz.func52.trans (congrArg some (by kernel_rfl))
  f233:=Tryz.func54.trans (congrArg some (by kernel_rfl))
  f234:=Tryz.func55.trans (congrArg some (by kernel_rfl))
  f235:=Tryz.func56.trans (congrArg some (by kernel_rfl))
  f236:=Tryz.func57.trans (congrArg some (by kernel_rfl))
  f260:=Tryz.func90.trans (congrArg some (by kernel_rfl))
  f266:=Tryz.func81.trans (congrArg some (by kernel_rfl))
  f271:=Tryz.func75.trans (congrArg some (by kernel_rfl))
  t0:=Tryz.underlying0
  a0:=Tryz.isAgg0
  z0:=Tryz.sizeOf0
  v0:=Tryz.zeroValue0
  t3:=Tryz.underlying3
  a3:=Tryz.isAgg3
  z3:=Tryz.sizeOf3
  v3:=Tryz.zeroValue3
  t4:=Tryz.underlying4
  a4:=Tryz.isAgg4
  z4:=Tryz.sizeOf4
  v4:=Tryz.zeroValue4
  t5:=Tryz.underlying5
  a5:=Tryz.isAgg5
  z5:=Tryz.sizeOf5
  v5:=Tryz.zeroValue5
  t9:=Tryz.underlying9
  a9:=Tryz.isAgg9
  z9:=Tryz.sizeOf9
  v9:=Tryz.zeroValue9
  t21:=Tryz.underlying21
  a21:=Tryz.isAgg21
  z21:=Tryz.sizeOf21
  v21:=Tryz.zeroValue21
  t46:=Tryz.underlying101
  a46:=Tryz.isAgg101
  z46:=Tryz.sizeOf101
  v46:=Tryz.zeroValue101
  t105:=Tryz.underlying105
  a105:=Tryz.isAgg105
  z105:=Tryz.sizeOf105
  v105:=Tryz.zeroValue105
  t116:=Tryz.underlying87
  a116:=Tryz.isAgg87
  z116:=Tryz.sizeOf87
  t117:=Tryz.underlying88
  a117:=Tryz.isAgg88
  z117:=Tryz.sizeOf88
  v117:=Tryz.zeroValue88
  t119:=Tryz.underlying130
  a119:=Tryz.isAgg130
  z119:=Tryz.sizeOf130
  t124:=Tryz.underlying91
  a124:=Tryz.isAgg91
  z124:=Tryz.sizeOf91
  v124:=Tryz.zeroValue91
  t138:=Tryz.underlying132
  a138:=Tryz.isAgg132
  z138:=Tryz.sizeOf132
  v138:=Tryz.zeroValue132
  t139:=Tryz.underlying133
  a139:=Tryz.isAgg133
  z139:=Tryz.sizeOf133
  v139:=Tryz.zeroValue133
  g3:=by kernel_rfl
  g4:=by kernel_rfl }
open Go.RowKit in
/-- strings.Trim at an ASCII cutset. -/
theorem Tryz.strings_Trim (s cutset:ByteArray) (w:World) (hs:s.size≤9223372036854775807) (hcs:cutset.size<4294967281) (hascii:∀ (j:Nat) b,cutset.data.toList[j]? = some b→b.toNat<128) :
    Calls Tryz.prog 43 #[.string s,.string cutset] w fun e w'=>e=.returned (.string ⟨(Lib.trimS s.data.toList cutset.data.toList).toArray⟩)∧Below w.heap.size w w':=Any.strings_Trim_laid Tryz.lays160s (by kernel_rfl) s cutset w hs hcs hascii
/-! ### a builder's writing, walked at this program -/
theorem Tryz.bl_size:(Tryz.prog.info? 46).map (·.size)=some 2:=by kernel_rfl
theorem Tryz.bl_lies:liesAt Tryz.prog Tryz.prog.depth 46 (2 / Tryz.prog.cellsOf 46) 0 46 1=true:=by kernel_rfl
theorem Tryz.bl_byte:(Tryz.prog.info? 5).map (fun i=>(i.zero,i.size,i.bytes))=some (some (.int .u8 0),1,1):=by kernel_rfl
set_option maxHeartbeats 1000000 in
set_option maxRecDepth 100000 in
theorem Tryz.bl_used (b:Nat) (w:World) (h0:w.cell? ⟨b,0,none⟩=some (.pointer (some ⟨b,0,none⟩))) :
    Calls Tryz.prog 32 #[.pointer (some ⟨b,0,none⟩)] w fun e w'=>e=.returned (.tuple #[])∧w'=w:=by
  obtain ⟨j,hj,_⟩:=Option.map_eq_some_iff.1 Tryz.bl_size
  go_enter Tryz.func32,Tryz.ntmps32
  go_wp2
  rw [Lib.run_neq_ptr_same w _ Tryz.underlying43 hj]
  go_wp2
  go_end0
  exact ⟨rfl,rfl⟩
set_option maxHeartbeats 1000000 in
set_option maxRecDepth 100000 in
theorem Tryz.bl_fresh (b:Nat) (w:World) (h0:w.cell? ⟨b,0,none⟩=some (.pointer none)) (hsh:w.shape? b=some (46,2)) (hfz:w.frozen? ⟨b,0,none⟩=false) :
    Calls Tryz.prog 32 #[.pointer (some ⟨b,0,none⟩)] w fun e w'=>e=.returned (.tuple #[])∧w'=w.setCell ⟨b,0,none⟩ (.pointer (some ⟨b,0,none⟩)):=by
  obtain ⟨j,hj,hjs⟩:=Option.map_eq_some_iff.1 Tryz.bl_size
  go_enter Tryz.func32,Tryz.ntmps32
  go_wp2
  rw [Lib.run_to_unsafe w ⟨b,0,none⟩ Tryz.underlying43 Tryz.underlying80 hj (by rw [hjs]; decide) hsh (Nat.zero_lt_succ 1)]
  simp only [Result.andThen]
  rw [Oper.upon_value]
  go_wp2
  rw [run_callFunc_extern Tryz.func45 (by kernel_rfl) (by kernel_rfl) (by kernel_rfl) (e:=Extern.AbiNoEscape.same) (by kernel_rfl)]
  rw [Lib.run_noEscape]
  simp only [Result.andThen]
  rw [Oper.upon_value]
  go_wp2
  rw [Lib.run_from_unsafe w ⟨b,0,none⟩ Tryz.underlying80 Tryz.underlying43 hj hsh Tryz.bl_lies]
  simp only [Result.andThen]
  rw [Oper.upon_value]
  go_wp2
  go_end0
  exact ⟨rfl,rfl⟩
theorem Tryz.Builder_copyCheck_k (B b:Nat) (bs:List Value) (w:World) (h:Lib.IsBuilderF 46 5 B b bs w) :
    Calls Tryz.prog 32 #[.pointer (some ⟨b,0,none⟩)] w fun e w'=>e=.returned (.tuple #[])∧(Lib.BuilderAtF 46 5 B b (.pointer (some ⟨b,0,none⟩)) bs w'∧Below B w w'∧Lib.OthersKept 5 (some b) w w'):=by
  rcases h with h | h
  · refine (Tryz.bl_fresh b w h.cell0 h.shape h.frozen0).mono ?_
    rintro e w' ⟨rfl,rfl⟩
    exact ⟨rfl,h.used _,(Below.refl B w).setCell (p:=⟨b,0,none⟩) h.1 _,(Lib.OthersKept.refl _ _ w).setCell ⟨b,0,none⟩ rfl _⟩
  · refine (Tryz.bl_used b w h.cell0).mono ?_
    rintro e w' ⟨rfl,rfl⟩
    exact ⟨rfl,h,Below.refl B _,Lib.OthersKept.refl _ _ _⟩
set_option maxHeartbeats 2000000 in
set_option maxRecDepth 100000 in
theorem Tryz.Builder_WriteString_k (B b:Nat) (bs:List Value) (s:ByteArray) (w:World) (h:Lib.IsBuilderF 46 5 B b bs w) (hlen:bs.length+s.size≤140737488355328) (hBw:B≤w.heap.size) :
    Calls Tryz.prog 16 #[.pointer (some ⟨b,0,none⟩),.string s] w fun e w'=>e=.returned (.tuple #[.int .i64 s.size,.nilIface])∧(Lib.BuilderAtF 46 5 B b (.pointer (some ⟨b,0,none⟩)) (bs++Lib.strCells s) w'∧Below B w w'∧Lib.OthersKept 5 (some b) w w'):=by
  obtain ⟨i0,hi,hz0,hz1,hz2⟩:=info_parts Tryz.bl_byte
  go_enter Tryz.func16,Tryz.ntmps16
  go_wp2_with (first
    | (go_at_call 32; refine (Tryz.Builder_copyCheck_k B b bs _ h).mono ?_; rintro e w1 ⟨rfl,⟨hB,v,hbk,hown,hne⟩,hb1,hk1⟩; have c0:w1.cell? ⟨b,0,none⟩=some (.pointer (some ⟨b,0,none⟩)):=(by rw [Lib.cell_of_heap hbk]; rfl); have c1:w1.cell? ⟨b,1,none⟩=some v:=(by rw [Lib.cell_of_heap hbk]; rfl))
    | (at_builtin; refine Lib.wpList_append_own_stringF _ rfl _ _ 44 9 rfl B 5 i0 Tryz.underlying44 Tryz.underlying9 hi hz0 hz1 hz2 _ _ _ rfl hown s rfl ?c3 ?c4 ?c5 ?_))
  case c3=>unfold maxLen; omega
  case c4=>omega
  case c5=>have:=hb1.size; omega
  intro v' w2 hown' hgrow _
  have hlt:b<w1.heap.size:=by
    rcases Nat.lt_or_ge b w1.heap.size with h' | h'
    · exact h'
    · simp [Array.getElem?_eq_none h'] at hbk
  have hb2:w2.heap[b]? = some (.cells #[.pointer (some ⟨b,0,none⟩),v] 46 (0,0)):=by
    rw [hgrow.block b hlt (fun e=>hne e.symm)]
    exact hbk
  have d0:w2.cell? ⟨b,0,none⟩=some (.pointer (some ⟨b,0,none⟩)):=by rw [Lib.cell_of_heap hb2]; rfl
  have d1:w2.cell? ⟨b,1,none⟩=some v:=by rw [Lib.cell_of_heap hb2]; rfl
  have f1:w2.frozen? ⟨b,1,none⟩=false:=Lib.frozen_of_heap hb2 1
  obtain ⟨ao,n',cap,rfl⟩:∃ ao n' cap,v'=.slice ao n' cap:=by
    rcases hown'.2 with ⟨hv,_⟩ | ⟨g,cap,cur,fz,hv,_⟩
    · exact ⟨_,_,_,hv⟩
    · exact ⟨_,_,_,hv⟩
  go_wp2
  go_ret2
  refine ⟨rfl,?_,?_,(hk1.grown hgrow (Lib.ownsRowF_kind hown)).setCell ⟨b,1,none⟩ rfl _⟩
  · exact Lib.BuilderAtF.put (T:=46) (e:=5) hB hb2 (bs':=bs++Lib.strCells s) (by simpa [Lib.strCells_length] using hown') (by decide)
  · exact (hb1.grown hgrow (by have:=hb1.size; omega) (fun k hk=>(hown.lt k hk).1)).setCell (p:=⟨b,1,none⟩) hB _
set_option maxHeartbeats 2000000 in
set_option maxRecDepth 1000000 in
theorem Tryz.Builder_Grow_fresh (B b n:Nat) (w:World) (hB:B≤b) (hbk:w.heap[b]? = some (.cells #[.pointer none,.slice none 0 0] 46 (0,0))) (hBw:B≤w.heap.size) (hn:n≤281474976710656) :
    Calls Tryz.prog 33 #[.pointer (some ⟨b,0,none⟩),.int .i64 n] w fun e w'=>e=.returned (.tuple #[])∧(Lib.BuilderAt 46 5 B b (.pointer (some ⟨b,0,none⟩)) [] w'∧Below B w w'):=by
  have hbk1:(w.setCell ⟨b,0,none⟩ (.pointer (some ⟨b,0,none⟩))).heap[b]? = some (.cells #[.pointer (some ⟨b,0,none⟩),.slice none 0 0] 46 (0,0)):=by
    simp [World.setCell,Array.getElem?_modify,hbk]
  have c1:(w.setCell ⟨b,0,none⟩ (.pointer (some ⟨b,0,none⟩))).cell? ⟨b,1,none⟩=some (.slice none 0 0):=by rw [Lib.cell_of_heap hbk1]; rfl
  have hb1:Below B w (w.setCell ⟨b,0,none⟩ (.pointer (some ⟨b,0,none⟩))):=(Below.refl B w).setCell (p:=⟨b,0,none⟩) hB _
  go_enter Tryz.func33,Tryz.ntmps33
  have hU:Lib.BuilderAt 46 5 B b (.pointer (some ⟨b,0,none⟩)) [] (w.setCell ⟨b,0,none⟩ (.pointer (some ⟨b,0,none⟩))):=⟨hB,.slice none 0 0,hbk1,World.ownsRow_nil _ _ _ _,by simp [Value.ownBlock]⟩
  have c1':(w.setCell ⟨b,0,none⟩ (.pointer (some ⟨b,0,none⟩))).drew.cell? ⟨b,1,none⟩=some (.slice none 0 0):=c1
  go_wp2_with (go_at_call 32; refine (Tryz.bl_fresh b w (by rw [Lib.cell_of_heap hbk]; rfl) (by simp [World.shape?,hbk]) (Lib.frozen_of_heap hbk 0)).mono ?_; rintro e w' ⟨rfl,rfl⟩)
  go_region
  all_goals go_wp2_with (go_at_call 46; refine (Tryz.Builder_grow_fresh B b n (w.setCell ⟨b,0,none⟩ (.pointer (some ⟨b,0,none⟩))).drew hB hbk1 (by simpa [World.setCell,World.drew,-World.drew_eq] using hBw) hn).mono ?_; rintro e w' ⟨rfl,h1,h2⟩)
  all_goals first
    | (go_end0; exact ⟨rfl,h1,hb1.drew.trans h2⟩)
    | (go_end0; exact ⟨rfl,hU.drew,hb1.drew⟩)
end Go.Proofs.YtnfgkhmhdefagaaGreatDoor.Shelf
