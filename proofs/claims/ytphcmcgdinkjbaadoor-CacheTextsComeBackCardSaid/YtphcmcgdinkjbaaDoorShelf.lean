/- Contracts of the shelf, laid at this program. -/
import Derived.Shelf.Strings.Builder1
import Derived.Shelf.Strings.Builder2
import Derived.Shelf.Strings.OnBuilder
import Derived.Shelf.Strings.Trim
import Derived.Shelf.Small.Utf8
import Derived.Shelf.Small.Strs
import Derived.Shelf.Strings.BuilderF
import Derived.Shelf.Strings.BuilderK
import Derived.Shelf.Utf8.RuneCount
import Derived.Shelf.Strings.Builder2Cap
import Derived.Shelf.Strconv.Atoi
import Derived.Shelf.Strconv.Itoa0
import Derived.Shelf.Strconv.Itoa1
import Derived.Shelf.LaysM
import Derived.Shelf.Strconv.Itoa2
import Derived.Shelf.Strconv.Itoa3
import Derived.Shelf.Strconv.AtoiErrFast
import Derived.Shelf.Strconv.ParseIntEmpty
import Derived.Shelf.Strconv.AtoiFail
import Derived.Shelf.Strconv.Clone
import Derived.Shelf.Strconv.SyntaxError
import Derived.Shelf.LaysC
import Derived.Shelf.Strconv.ToError
import Derived.Shelf.Strconv.AtoiErr
import Derived.Shelf.Strconv.Lower
import Derived.Shelf.Strconv.ParseUint10
import Derived.Shelf.Strconv.ParseUint10Empty
import Derived.Shelf.Strconv.ParseUint10Any
import Derived.Shelf.Strconv.ParseInt10
import Derived.Shelf.Strconv.RangeError
import Derived.Shelf.Strconv.ToErrorRange
import Derived.Shelf.Strconv.ParseUintEmpty
import Derived.Shelf.Strconv.ParseUint10b64
import Derived.Shelf.Strconv.ParseUint10b32
import Derived.Shelf.Strconv.ParseUint10b16
import Derived.Shelf.Strconv.ParseUint10b8
import Derived.Shelf.Strconv.ParseUint10At
import Derived.Shelf.Strconv.ParseInt10At64
import Derived.Shelf.Strconv.ParseInt10At32
import Derived.Shelf.Strconv.ParseInt10At16
import Derived.Shelf.Strconv.ParseInt10At8
import Derived.Shelf.Strings.Search1
import Derived.Shelf.Strings.Search2
import Derived.Shelf.Strings.Search3
import Derived.Shelf.Strings.Cut
import Derived.Shelf.Strings.Count
import Derived.Shelf.Strings.Shaped
import Derived.Shelf.Strings.Split
import Derived.Shelf.Strings.SplitShaped
import Derived.Shelf.Unicode.Decode
import Derived.Shelf.Strings.Runes
import Derived.Shelf.Strings.RuneCount
import Derived.Shelf.Strings.AsciiSet
import Derived.Shelf.Strings.Explode
import Derived.Shelf.Unicode.DecodeSlow
import Derived.Shelf.Unicode.DecodeAny
import Derived.Shelf.Unicode.DecodeLast
import Derived.Shelf.Strings.BuilderCap
import Derived.Shelf.Slices.Clone
import Derived.Shelf.SlicesE.Clone
import Derived.Shelf.Strings.SlTrimAscii
import Derived.Shelf.Strings.BuilderK
import Derived.WalkKit
import Derived.Test.YtphcmcgdinkjbaaDoorProg
namespace Go.Proofs.YtphcmcgdinkjbaaDoor.Shelf
open Go.Proofs Go.RowKit
open Go.Shelf
def Tryd.lays170_ren:Go.Shelf.Ren:=⟨fun | 170=>13 | n=>n,fun | 70=>35 | 3=>3 | 0=>0 | 72=>38 | 37=>36 | 5=>5 | n=>n,fun | n=>n⟩
theorem Tryd.lays170:Go.Proofs.Lays.n170 Tryd.prog Tryd.lays170_ren:={
  mixed:=by kernel_rfl
  f170:=Tryd.func13.trans (congrArg some (by kernel_rfl))
  t0:=Tryd.underlying0
  a0:=Tryd.isAgg0
  z0:=Tryd.sizeOf0
  v0:=Tryd.zeroValue0
  t3:=Tryd.underlying3
  a3:=Tryd.isAgg3
  z3:=Tryd.sizeOf3
  v3:=Tryd.zeroValue3
  t37:=Tryd.underlying36
  a37:=Tryd.isAgg36
  z37:=Tryd.sizeOf36
  v37:=Tryd.zeroValue36
  t70:=Tryd.underlying35
  a70:=Tryd.isAgg35
  z70:=Tryd.sizeOf35
  v70:=Tryd.zeroValue35
  t72:=Tryd.underlying38
  a72:=Tryd.isAgg38
  z72:=Tryd.sizeOf38
  v72:=Tryd.zeroValue38 }
def Tryd.lays169_ren:Go.Shelf.Ren:=⟨fun | 169=>14 | n=>n,fun | 70=>35 | 9=>9 | 0=>0 | 72=>38 | 37=>36 | 127=>66 | 3=>3 | 5=>5 | n=>n,fun | n=>n⟩
theorem Tryd.lays169:Go.Proofs.Lays.n169 Tryd.prog Tryd.lays169_ren:={
  mixed:=by kernel_rfl
  f169:=Tryd.func14.trans (congrArg some (by kernel_rfl))
  t0:=Tryd.underlying0
  a0:=Tryd.isAgg0
  z0:=Tryd.sizeOf0
  v0:=Tryd.zeroValue0
  t3:=Tryd.underlying3
  a3:=Tryd.isAgg3
  z3:=Tryd.sizeOf3
  v3:=Tryd.zeroValue3
  t9:=Tryd.underlying9
  a9:=Tryd.isAgg9
  z9:=Tryd.sizeOf9
  v9:=Tryd.zeroValue9
  t37:=Tryd.underlying36
  a37:=Tryd.isAgg36
  z37:=Tryd.sizeOf36
  v37:=Tryd.zeroValue36
  t70:=Tryd.underlying35
  a70:=Tryd.isAgg35
  z70:=Tryd.sizeOf35
  v70:=Tryd.zeroValue35
  t72:=Tryd.underlying38
  a72:=Tryd.isAgg38
  z72:=Tryd.sizeOf38
  v72:=Tryd.zeroValue38
  t127:=Tryd.underlying66
  a127:=Tryd.isAgg66
  z127:=Tryd.sizeOf66
  v127:=Tryd.zeroValue66 }
theorem Tryd.Builder_Extra_169:Builder.Extra Tryd.prog Tryd.lays169_ren:={
  sizeBuilder:=by kernel_rfl
  liesBuilder:=by kernel_rfl
  t5:=Tryd.underlying5
  a5:=Tryd.isAgg5
  z5:=Tryd.sizeOf5
  v5:=Tryd.zeroValue5
  infoByte:=by kernel_rfl
  cellsByte:=by kernel_rfl
  sizeByte:=by kernel_rfl
  neB5:=by decide }
def Tryd.lays241_ren:Go.Shelf.Ren:=⟨fun | 241=>35 | 277=>51 | n=>n,fun | 70=>35 | 3=>3 | 0=>0 | 72=>38 | 37=>36 | 5=>5 | n=>n,fun | n=>n⟩
theorem Tryd.lays241:Go.Proofs.Lays.n241 Tryd.prog Tryd.lays241_ren:={
  mixed:=by kernel_rfl
  f241:=Tryd.func35.trans (congrArg some (by kernel_rfl))
  f277:=Tryd.func51.trans (congrArg some (by kernel_rfl))
  t0:=Tryd.underlying0
  a0:=Tryd.isAgg0
  z0:=Tryd.sizeOf0
  v0:=Tryd.zeroValue0
  t3:=Tryd.underlying3
  a3:=Tryd.isAgg3
  z3:=Tryd.sizeOf3
  v3:=Tryd.zeroValue3
  t37:=Tryd.underlying36
  a37:=Tryd.isAgg36
  z37:=Tryd.sizeOf36
  v37:=Tryd.zeroValue36
  t70:=Tryd.underlying35
  a70:=Tryd.isAgg35
  z70:=Tryd.sizeOf35
  v70:=Tryd.zeroValue35
  t72:=Tryd.underlying38
  a72:=Tryd.isAgg38
  z72:=Tryd.sizeOf38
  v72:=Tryd.zeroValue38 }
theorem Tryd.Builder_Extra_241:Builder.Extra Tryd.prog Tryd.lays241_ren:={
  sizeBuilder:=by kernel_rfl
  liesBuilder:=by kernel_rfl
  t5:=Tryd.underlying5
  a5:=Tryd.isAgg5
  z5:=Tryd.sizeOf5
  v5:=Tryd.zeroValue5
  infoByte:=by kernel_rfl
  cellsByte:=by kernel_rfl
  sizeByte:=by kernel_rfl
  neB5:=by decide }
open Go.RowKit in
/-- (*strings.Builder).grow (no doc but "grow copies the buffer to a new, larger buffer so that there are at least n bytes of capacity beyond len(b.buf)."): AT A BUILDER WITHOUT A BUFFER: a new row of whatever bytes for its buffer, none of them its own yet. Three draws. (LAID: no walk: one application.) -/
theorem Tryd.Builder_grow_fresh (B b n:Nat) (w:World) (hB:B≤b) (hbk:w.heap[b]? = some (.cells #[.pointer (some ⟨b,0,none⟩),.slice none 0 0] 38 (0,0))) (hBw:B≤w.heap.size) (hn:n≤281474976710656) :
    Calls Tryd.prog 35 #[.pointer (some ⟨b,0,none⟩),.int .i64 n] w fun e w'=>e=.returned (.tuple #[])∧(Lib.BuilderAt 38 5 B b (.pointer (some ⟨b,0,none⟩)) [] w'∧Below B w w'):=Any.Builder_grow_fresh Tryd.lays241 Tryd.Builder_Extra_241 B b n w hB hbk hBw hn
open Go.RowKit in
/-- (*strings.Builder).Len: "Len returns the number of accumulated bytes; b.Len() == len(b.String()).": the world is as it was. (THE FORM '_f': 'Lib.IsBuilderF'.) (LAID: no walk: one application.) -/
theorem Tryd.Builder_Len_f (B b:Nat) (bs:List Value) (w:World) (h:Lib.IsBuilderF 38 5 B b bs w) :
    Calls Tryd.prog 13 #[.pointer (some ⟨b,0,none⟩)] w fun e w'=>e=.returned (.int .i64 bs.length)∧w'=w:=Any.Builder_Len_f Tryd.lays170 B b bs w h
open Go.RowKit in
/-- (*strings.Builder).String: "String returns the accumulated string.": WHATEVER THE BUILDER HOLDS; THE FORM '_k': OVER 'Lib.IsBuilderF' (a builder that 'String()' may have read), AND WITH THE FRAME THAT REACHES ABOVE THE BUILDER: 'Lib.OthersKept': every block that is not b and is no row of uint8's stands as it stood: the iterator of a range among them. (LAID: no walk: one application.) -/
theorem Tryd.Builder_String_any_k (B b:Nat) (l:List UInt8) (w:World) (h:Lib.IsBuilderF 38 5 B b (Lib.byteCells l) w) (hBw:B≤w.heap.size) :
    Calls Tryd.prog 14 #[.pointer (some ⟨b,0,none⟩)] w fun e w'=>e=.returned (.string ⟨l.toArray⟩)∧(Lib.IsBuilderF 38 5 B b (Lib.byteCells l) w'∧Below B w w'∧Lib.OthersKept 5 (some b) w w'):=Any.Builder_String_any_k Tryd.lays169 Tryd.Builder_Extra_169 B b l w h hBw
def Tryd.lays172_ren:Go.Shelf.Ren:=⟨fun | 172=>39 | 244=>59 | 245=>60 | 247=>74 | 279=>75 | 280=>76 | 281=>77 | 282=>78 | 287=>84 | 316=>85 | 171=>9 | 205=>86 | 321=>89 | 322=>90 | 243=>24 | 246=>33 | 283=>47 | 284=>48 | 285=>49 | 286=>50 | 129=>66 | 317=>65 | 318=>67 | 319=>68 | 320=>69 | 337=>82 | 338=>83 | n=>n,fun | 9=>9 | 3=>3 | 75=>42 | 76=>43 | 4=>4 | 5=>5 | 167=>111 | 37=>36 | 0=>0 | 85=>112 | 2=>2 | 168=>114 | 53=>88 | 175=>119 | 46=>96 | 210=>123 | 127=>66 | 145=>135 | 143=>133 | 21=>21 | 171=>87 | 173=>91 | 212=>104 | 51=>105 | 20=>20 | 213=>106 | 232=>130 | 233=>131 | 80=>52 | n=>n,fun | 15=>2 | 16=>3 | 17=>1 | 18=>6 | 19=>7 | n=>n⟩
theorem Tryd.lays172:Go.Proofs.Lays.n172 Tryd.prog Tryd.lays172_ren:={
  mixed:=by kernel_rfl
  f129:=Tryd.func66.trans (congrArg some (by kernel_rfl))
  f171:=Tryd.func9.trans (congrArg some (by kernel_rfl))
  f172:=Tryd.func39.trans (congrArg some (by kernel_rfl))
  f205:=Tryd.func86.trans (congrArg some (by kernel_rfl))
  f243:=Tryd.func24.trans (congrArg some (by kernel_rfl))
  f244:=Tryd.func59.trans (congrArg some (by kernel_rfl))
  f245:=Tryd.func60.trans (congrArg some (by kernel_rfl))
  f246:=Tryd.func33.trans (congrArg some (by kernel_rfl))
  f247:=Tryd.func74.trans (congrArg some (by kernel_rfl))
  f279:=Tryd.func75.trans (congrArg some (by kernel_rfl))
  f280:=Tryd.func76.trans (congrArg some (by kernel_rfl))
  f281:=Tryd.func77.trans (congrArg some (by kernel_rfl))
  f282:=Tryd.func78.trans (congrArg some (by kernel_rfl))
  f283:=Tryd.func47.trans (congrArg some (by kernel_rfl))
  f284:=Tryd.func48.trans (congrArg some (by kernel_rfl))
  f285:=Tryd.func49.trans (congrArg some (by kernel_rfl))
  f286:=Tryd.func50.trans (congrArg some (by kernel_rfl))
  f287:=Tryd.func84.trans (congrArg some (by kernel_rfl))
  f316:=Tryd.func85.trans (congrArg some (by kernel_rfl))
  f317:=Tryd.func65.trans (congrArg some (by kernel_rfl))
  f318:=Tryd.func67.trans (congrArg some (by kernel_rfl))
  f319:=Tryd.func68.trans (congrArg some (by kernel_rfl))
  f320:=Tryd.func69.trans (congrArg some (by kernel_rfl))
  f321:=Tryd.func89.trans (congrArg some (by kernel_rfl))
  f322:=Tryd.func90.trans (congrArg some (by kernel_rfl))
  f337:=Tryd.func82.trans (congrArg some (by kernel_rfl))
  f338:=Tryd.func83.trans (congrArg some (by kernel_rfl))
  t0:=Tryd.underlying0
  a0:=Tryd.isAgg0
  z0:=Tryd.sizeOf0
  v0:=Tryd.zeroValue0
  t2:=Tryd.underlying2
  a2:=Tryd.isAgg2
  z2:=Tryd.sizeOf2
  v2:=Tryd.zeroValue2
  t3:=Tryd.underlying3
  a3:=Tryd.isAgg3
  z3:=Tryd.sizeOf3
  v3:=Tryd.zeroValue3
  t4:=Tryd.underlying4
  a4:=Tryd.isAgg4
  z4:=Tryd.sizeOf4
  v4:=Tryd.zeroValue4
  t5:=Tryd.underlying5
  a5:=Tryd.isAgg5
  z5:=Tryd.sizeOf5
  v5:=Tryd.zeroValue5
  t9:=Tryd.underlying9
  a9:=Tryd.isAgg9
  z9:=Tryd.sizeOf9
  v9:=Tryd.zeroValue9
  t20:=Tryd.underlying20
  a20:=Tryd.isAgg20
  z20:=Tryd.sizeOf20
  v20:=Tryd.zeroValue20
  t21:=Tryd.underlying21
  a21:=Tryd.isAgg21
  z21:=Tryd.sizeOf21
  v21:=Tryd.zeroValue21
  t37:=Tryd.underlying36
  a37:=Tryd.isAgg36
  z37:=Tryd.sizeOf36
  v37:=Tryd.zeroValue36
  t46:=Tryd.underlying96
  a46:=Tryd.isAgg96
  z46:=Tryd.sizeOf96
  v46:=Tryd.zeroValue96
  t51:=Tryd.underlying105
  a51:=Tryd.isAgg105
  z51:=Tryd.sizeOf105
  v51:=Tryd.zeroValue105
  t53:=Tryd.underlying88
  a53:=Tryd.isAgg88
  z53:=Tryd.sizeOf88
  v53:=Tryd.zeroValue88
  t75:=Tryd.underlying42
  a75:=Tryd.isAgg42
  z75:=Tryd.sizeOf42
  v75:=Tryd.zeroValue42
  t76:=Tryd.underlying43
  a76:=Tryd.isAgg43
  z76:=Tryd.sizeOf43
  v76:=Tryd.zeroValue43
  t85:=Tryd.underlying112
  a85:=Tryd.isAgg112
  z85:=Tryd.sizeOf112
  v85:=Tryd.zeroValue112
  t127:=Tryd.underlying66
  a127:=Tryd.isAgg66
  z127:=Tryd.sizeOf66
  v127:=Tryd.zeroValue66
  t143:=Tryd.underlying133
  a143:=Tryd.isAgg133
  z143:=Tryd.sizeOf133
  v143:=Tryd.zeroValue133
  t145:=Tryd.underlying135
  a145:=Tryd.isAgg135
  z145:=Tryd.sizeOf135
  v145:=Tryd.zeroValue135
  t167:=Tryd.underlying111
  a167:=Tryd.isAgg111
  z167:=Tryd.sizeOf111
  v167:=Tryd.zeroValue111
  t168:=Tryd.underlying114
  a168:=Tryd.isAgg114
  z168:=Tryd.sizeOf114
  v168:=Tryd.zeroValue114
  t171:=Tryd.underlying87
  a171:=Tryd.isAgg87
  z171:=Tryd.sizeOf87
  v171:=Tryd.zeroValue87
  t173:=Tryd.underlying91
  a173:=Tryd.isAgg91
  z173:=Tryd.sizeOf91
  v173:=Tryd.zeroValue91
  t175:=Tryd.underlying119
  a175:=Tryd.isAgg119
  z175:=Tryd.sizeOf119
  v175:=Tryd.zeroValue119
  t210:=Tryd.underlying123
  a210:=Tryd.isAgg123
  z210:=Tryd.sizeOf123
  v210:=Tryd.zeroValue123
  t212:=Tryd.underlying104
  a212:=Tryd.isAgg104
  z212:=Tryd.sizeOf104
  v212:=Tryd.zeroValue104
  t213:=Tryd.underlying106
  a213:=Tryd.isAgg106
  z213:=Tryd.sizeOf106
  t232:=Tryd.underlying130
  a232:=Tryd.isAgg130
  z232:=Tryd.sizeOf130
  v232:=Tryd.zeroValue130
  t233:=Tryd.underlying131
  a233:=Tryd.isAgg131
  z233:=Tryd.sizeOf131
  v233:=Tryd.zeroValue131
  g15:=by kernel_rfl
  g16:=by kernel_rfl
  g17:=by kernel_rfl
  g18:=by kernel_rfl
  g19:=by kernel_rfl }
open Go.RowKit in
/-- strconv.Atoi: "Atoi is equivalent to ParseInt(s, 10, 0), converted to type int.": AT A DECIMAL NUMERAL OF AT MOST 18 BYTES: its value, and a nil error. The world behind the call: the one new row that the library's '[]byte(s)' lays. (LAID: no walk: one application.) -/
theorem Tryd.strconv_Atoi (s:ByteArray) (n:Int) (hl:s.size≤18) (h:Lib.atoi s.data.toList=some n) (w:World) :
    Calls Tryd.prog 39 #[.string s] w fun e w'=>e=.returned (.tuple #[.int .i64 n,.nilIface])∧∃ t,w'=Lib.bytesWorld w 5 t:=Any.strconv_Atoi Tryd.lays172 s n hl h w
def Tryd.laysM171_ren:Go.Shelf.Ren:=⟨fun | 171=>9 | 243=>24 | 246=>33 | 283=>47 | 284=>48 | 285=>49 | 286=>50 | 129=>66 | 317=>65 | 318=>67 | 319=>68 | 320=>69 | 337=>82 | 338=>83 | n=>n,fun | 3=>3 | 9=>9 | 2=>2 | 4=>4 | 171=>87 | 0=>0 | 53=>88 | 37=>36 | 5=>5 | 173=>91 | 212=>104 | 51=>105 | 20=>20 | 213=>106 | 46=>96 | 232=>130 | 233=>131 | n=>n,fun | 17=>1 | 18=>6 | 19=>7 | n=>n⟩
theorem Tryd.laysM171:Go.Proofs.LaysM.n171 Tryd.prog Tryd.laysM171_ren:={
  mixed:=by kernel_rfl
  f129:=Tryd.func66.trans (congrArg some (by kernel_rfl))
  f171:=Tryd.func9.trans (congrArg some (by kernel_rfl))
  f243:=Tryd.func24.trans (congrArg some (by kernel_rfl))
  f246:=Tryd.func33.trans (congrArg some (by kernel_rfl))
  f283:=Tryd.func47.trans (congrArg some (by kernel_rfl))
  f284:=Tryd.func48.trans (congrArg some (by kernel_rfl))
  f285:=Tryd.func49.trans (congrArg some (by kernel_rfl))
  f286:=Tryd.func50.trans (congrArg some (by kernel_rfl))
  f317:=Tryd.func65.trans (congrArg some (by kernel_rfl))
  f318:=Tryd.func67.trans (congrArg some (by kernel_rfl))
  f319:=Tryd.func68.trans (congrArg some (by kernel_rfl))
  f320:=Tryd.func69.trans (congrArg some (by kernel_rfl))
  f337:=Tryd.func82.trans (congrArg some (by kernel_rfl))
  f338:=Tryd.func83.trans (congrArg some (by kernel_rfl))
  t0:=Tryd.underlying0
  a0:=Tryd.isAgg0
  z0:=Tryd.sizeOf0
  v0:=Tryd.zeroValue0
  t2:=Tryd.underlying2
  a2:=Tryd.isAgg2
  z2:=Tryd.sizeOf2
  v2:=Tryd.zeroValue2
  t3:=Tryd.underlying3
  a3:=Tryd.isAgg3
  z3:=Tryd.sizeOf3
  v3:=Tryd.zeroValue3
  t4:=Tryd.underlying4
  a4:=Tryd.isAgg4
  z4:=Tryd.sizeOf4
  v4:=Tryd.zeroValue4
  t5:=Tryd.underlying5
  a5:=Tryd.isAgg5
  z5:=Tryd.sizeOf5
  v5:=Tryd.zeroValue5
  t9:=Tryd.underlying9
  a9:=Tryd.isAgg9
  z9:=Tryd.sizeOf9
  v9:=Tryd.zeroValue9
  t20:=Tryd.underlying20
  a20:=Tryd.isAgg20
  z20:=Tryd.sizeOf20
  v20:=Tryd.zeroValue20
  t37:=Tryd.underlying36
  a37:=Tryd.isAgg36
  z37:=Tryd.sizeOf36
  v37:=Tryd.zeroValue36
  t46:=Tryd.underlying96
  a46:=Tryd.isAgg96
  z46:=Tryd.sizeOf96
  v46:=Tryd.zeroValue96
  t51:=Tryd.underlying105
  a51:=Tryd.isAgg105
  z51:=Tryd.sizeOf105
  v51:=Tryd.zeroValue105
  t53:=Tryd.underlying88
  a53:=Tryd.isAgg88
  z53:=Tryd.sizeOf88
  v53:=Tryd.zeroValue88
  t171:=Tryd.underlying87
  a171:=Tryd.isAgg87
  z171:=Tryd.sizeOf87
  v171:=Tryd.zeroValue87
  t173:=Tryd.underlying91
  a173:=Tryd.isAgg91
  z173:=Tryd.sizeOf91
  v173:=Tryd.zeroValue91
  t212:=Tryd.underlying104
  a212:=Tryd.isAgg104
  z212:=Tryd.sizeOf104
  v212:=Tryd.zeroValue104
  t213:=Tryd.underlying106
  a213:=Tryd.isAgg106
  z213:=Tryd.sizeOf106
  t232:=Tryd.underlying130
  a232:=Tryd.isAgg130
  z232:=Tryd.sizeOf130
  v232:=Tryd.zeroValue130
  t233:=Tryd.underlying131
  a233:=Tryd.isAgg131
  z233:=Tryd.sizeOf131
  v233:=Tryd.zeroValue131
  g17:=by kernel_rfl
  g18:=by kernel_rfl
  g19:=by kernel_rfl
  i0:=by kernel_rfl
  i2:=by kernel_rfl
  i3:=by kernel_rfl
  i4:=by kernel_rfl
  i5:=by kernel_rfl
  i9:=by kernel_rfl
  i20:=by kernel_rfl
  i37:=by kernel_rfl
  i46:=by kernel_rfl
  i51:=by kernel_rfl
  i53:=by kernel_rfl
  i171:=by kernel_rfl
  i173:=by kernel_rfl
  i212:=by kernel_rfl
  i232:=by kernel_rfl
  i233:=by kernel_rfl
  m17:=by kernel_rfl
  m18:=by kernel_rfl
  m19:=by kernel_rfl }
open Go.RowKit Go.Sort Go.Lib in
/-- strconv.Itoa: "Itoa is equivalent to FormatInt(int64(i), 10).": i's DECIMAL NUMERAL ('Lib.itoa': a '-' where i is negative, then the digits), FOR EVERY int. The world behind the call: the world before it, new blocks behind the heap (the library's 'var a [24]byte'), draws. (LAID: no walk: one application.) -/
theorem Tryd.strconv_Itoa (n : Int) (h0 : -9223372036854775808 ≤ n) (h1 : n ≤ 9223372036854775807) (w : World) (htab : Lib.TabIs Tryd.prog w "internal/strconv.uint64pow10" .u64 Lib.pow10Tab) :
    Calls Tryd.prog 9 #[.int .i64 n] w fun e w'=>e=.returned (.string ⟨(Lib.itoa n).toArray⟩)∧∃ k os,w'=grow (w.drewN k) os:=Any.strconv_Itoa Tryd.laysM171 n h0 h1 w htab
def Tryd.lays219_ren:Go.Shelf.Ren:=⟨fun | 219=>36 | 217=>52 | 225=>53 | 224=>54 | 267=>55 | 266=>70 | 314=>71 | n=>n,fun | 9=>9 | 3=>3 | 4=>4 | 5=>5 | 46=>96 | 146=>108 | 51=>105 | n=>n,fun | 1=>0 | n=>n⟩
theorem Tryd.lays219:Go.Proofs.Lays.n219 Tryd.prog Tryd.lays219_ren:={
  mixed:=by kernel_rfl
  f217:=Tryd.func52.trans (congrArg some (by kernel_rfl))
  f219:=Tryd.func36.trans (congrArg some (by kernel_rfl))
  f224:=Tryd.func54.trans (congrArg some (by kernel_rfl))
  f225:=Tryd.func53.trans (congrArg some (by kernel_rfl))
  f266:=Tryd.func70.trans (congrArg some (by kernel_rfl))
  f267:=Tryd.func55.trans (congrArg some (by kernel_rfl))
  f314:=Tryd.func71.trans (congrArg some (by kernel_rfl))
  t3:=Tryd.underlying3
  a3:=Tryd.isAgg3
  z3:=Tryd.sizeOf3
  v3:=Tryd.zeroValue3
  t4:=Tryd.underlying4
  a4:=Tryd.isAgg4
  z4:=Tryd.sizeOf4
  v4:=Tryd.zeroValue4
  t5:=Tryd.underlying5
  a5:=Tryd.isAgg5
  z5:=Tryd.sizeOf5
  v5:=Tryd.zeroValue5
  t9:=Tryd.underlying9
  a9:=Tryd.isAgg9
  z9:=Tryd.sizeOf9
  v9:=Tryd.zeroValue9
  t46:=Tryd.underlying96
  a46:=Tryd.isAgg96
  z46:=Tryd.sizeOf96
  v46:=Tryd.zeroValue96
  t51:=Tryd.underlying105
  a51:=Tryd.isAgg105
  z51:=Tryd.sizeOf105
  v51:=Tryd.zeroValue105
  t146:=Tryd.underlying108
  a146:=Tryd.isAgg108
  z146:=Tryd.sizeOf108
  v146:=Tryd.zeroValue108
  g1:=by kernel_rfl }
open Go.RowKit Go.Lib in
/-- internal/stringslite.Index (what strings.Index calls) AT A substr OF ONE BYTE c: IT RETURNS 'Lib.indexByte s c'; the world is as it was. (LAID: no walk: one application.) -/
theorem Tryd.stringslite_Index_one (s:ByteArray) (c:UInt8) (w:World) :
    Calls Tryd.prog 36 #[.string s,.string ⟨#[c]⟩] w fun e w'=>e=.returned (.int .i64 (Lib.indexByte s.data.toList c))∧w'=w:=Any.stringslite_Index_one Tryd.lays219 s c w
open Go.RowKit Go.Lib in
/-- internal/stringslite.Index (what strings.Index calls) AT A substr OF WHATEVER LENGTH: IT RETURNS 'Lib.index s substr'; the world is as it was. 'm': what internal/bytealg.MaxLen holds: whatever. (LAID: no walk: one application.) -/
theorem Tryd.stringslite_Index (s sub:ByteArray) (m:Int) (w:World) (hs:s.size<4294967281) (hm:w.cell? ⟨0,0,none⟩=some (.int .i64 m)) :
    Calls Tryd.prog 36 #[.string s,.string sub] w fun e w'=>e=.returned (.int .i64 (Lib.index s.data.toList sub.data.toList))∧w'=w:=Any.stringslite_Index Tryd.lays219 s sub m w hs hm
def Tryd.lays146_ren:Go.Shelf.Ren:=⟨fun | 146=>28 | 221=>37 | 268=>56 | 138=>57 | 143=>58 | 195=>72 | 197=>62 | 218=>73 | 219=>36 | 260=>79 | 217=>52 | 225=>53 | 224=>54 | 267=>55 | 266=>70 | 314=>71 | n=>n,fun | 9=>9 | 31=>40 | 3=>3 | 4=>4 | 0=>0 | 105=>100 | 21=>21 | 5=>5 | 46=>96 | 119=>125 | 139=>128 | 138=>127 | 146=>108 | 51=>105 | n=>n,fun | 1=>0 | 3=>4 | 4=>5 | n=>n⟩
theorem Tryd.lays146:Go.Proofs.Lays.n146 Tryd.prog Tryd.lays146_ren:={
  mixed:=by kernel_rfl
  f138:=Tryd.func57.trans (congrArg some (by kernel_rfl))
  f143:=Tryd.func58.trans (congrArg some (by kernel_rfl))
  f146:=Tryd.func28.trans (congrArg some (by kernel_rfl))
  f195:=Tryd.func72.trans (congrArg some (by kernel_rfl))
  f197:=Tryd.func62.trans (congrArg some (by kernel_rfl))
  f217:=Tryd.func52.trans (congrArg some (by kernel_rfl))
  f218:=Tryd.func73.trans (congrArg some (by kernel_rfl))
  f219:=Tryd.func36.trans (congrArg some (by kernel_rfl))
  f221:=Tryd.func37.trans (congrArg some (by kernel_rfl))
  f224:=Tryd.func54.trans (congrArg some (by kernel_rfl))
  f225:=Tryd.func53.trans (congrArg some (by kernel_rfl))
  f260:=Tryd.func79.trans (congrArg some (by kernel_rfl))
  f266:=Tryd.func70.trans (congrArg some (by kernel_rfl))
  f267:=Tryd.func55.trans (congrArg some (by kernel_rfl))
  f268:=Tryd.func56.trans (congrArg some (by kernel_rfl))
  f314:=Tryd.func71.trans (congrArg some (by kernel_rfl))
  t0:=Tryd.underlying0
  a0:=Tryd.isAgg0
  z0:=Tryd.sizeOf0
  v0:=Tryd.zeroValue0
  t3:=Tryd.underlying3
  a3:=Tryd.isAgg3
  z3:=Tryd.sizeOf3
  v3:=Tryd.zeroValue3
  t4:=Tryd.underlying4
  a4:=Tryd.isAgg4
  z4:=Tryd.sizeOf4
  v4:=Tryd.zeroValue4
  t5:=Tryd.underlying5
  a5:=Tryd.isAgg5
  z5:=Tryd.sizeOf5
  v5:=Tryd.zeroValue5
  t9:=Tryd.underlying9
  a9:=Tryd.isAgg9
  z9:=Tryd.sizeOf9
  v9:=Tryd.zeroValue9
  t21:=Tryd.underlying21
  a21:=Tryd.isAgg21
  z21:=Tryd.sizeOf21
  v21:=Tryd.zeroValue21
  t31:=Tryd.underlying40
  a31:=Tryd.isAgg40
  z31:=Tryd.sizeOf40
  v31:=Tryd.zeroValue40
  t46:=Tryd.underlying96
  a46:=Tryd.isAgg96
  z46:=Tryd.sizeOf96
  v46:=Tryd.zeroValue96
  t51:=Tryd.underlying105
  a51:=Tryd.isAgg105
  z51:=Tryd.sizeOf105
  v51:=Tryd.zeroValue105
  t105:=Tryd.underlying100
  a105:=Tryd.isAgg100
  z105:=Tryd.sizeOf100
  v105:=Tryd.zeroValue100
  t119:=Tryd.underlying125
  a119:=Tryd.isAgg125
  z119:=Tryd.sizeOf125
  t138:=Tryd.underlying127
  a138:=Tryd.isAgg127
  z138:=Tryd.sizeOf127
  v138:=Tryd.zeroValue127
  t139:=Tryd.underlying128
  a139:=Tryd.isAgg128
  z139:=Tryd.sizeOf128
  v139:=Tryd.zeroValue128
  t146:=Tryd.underlying108
  a146:=Tryd.isAgg108
  z146:=Tryd.sizeOf108
  v146:=Tryd.zeroValue108
  g1:=by kernel_rfl
  g3:=by kernel_rfl
  g4:=by kernel_rfl }
open Go.RowKit Go.Lib in
/-- strings.Split. (LAID: no walk: one application.) -/
theorem Tryd.strings_Split (s sep:ByteArray) (m:Int) (w:World) (hs:s.size<4294967281) (hm:w.cell? ⟨0,0,none⟩=some (.int .i64 m)) (h1:1≤sep.size) :
    Calls Tryd.prog 28 #[.string s,.string sep] w fun e w' =>
      e=.returned (.slice (some ⟨w.heap.size,0,none⟩) (Lib.countB s sep+1) (Lib.countB s sep+1))∧w'=w.alloc (.cells ((Lib.splitB sep 0 (Lib.countB s sep) s).map Value.string).toArray 9):=Any.strings_Split Tryd.lays146 (by kernel_rfl) s sep m w hs hm h1
def Tryd.lays160s_ren:Go.Shelf.Ren:=⟨fun | 160=>32 | 232=>41 | 231=>40 | 227=>42 | 234=>44 | 233=>43 | 236=>46 | 235=>45 | 228=>61 | 271=>64 | 151=>63 | 197=>62 | 120=>81 | 152=>80 | 260=>79 | 137=>87 | 119=>88 | 224=>54 | 225=>53 | 217=>52 | 266=>70 | n=>n,fun | 9=>9 | 4=>4 | 3=>3 | 5=>5 | 117=>83 | 116=>82 | 0=>0 | 124=>86 | 21=>21 | 105=>100 | 46=>96 | 119=>125 | 139=>128 | 138=>127 | n=>n,fun | 3=>4 | 4=>5 | n=>n⟩
theorem Tryd.lays160s:Go.Proofs.Lays.n160 Tryd.prog Tryd.lays160s_ren:={
  mixed:=by kernel_rfl
  f119:=Tryd.func88.trans (congrArg some (by kernel_rfl))
  f120:=Tryd.func81.trans (congrArg some (by kernel_rfl))
  f137:=Tryd.func87.trans (congrArg some (by kernel_rfl))
  f151:=Tryd.func63.trans (congrArg some (by kernel_rfl))
  f152:=Tryd.func80.trans (congrArg some (by kernel_rfl))
  f160:=Tryd.func32.trans (congrArg some (by kernel_rfl))
  f197:=Tryd.func62.trans (congrArg some (by kernel_rfl))
  f217:=Tryd.func52.trans (congrArg some (by kernel_rfl))
  f224:=Tryd.func54.trans (congrArg some (by kernel_rfl))
  f225:=Tryd.func53.trans (congrArg some (by kernel_rfl))
  f227:=Tryd.func42.trans (congrArg some (by kernel_rfl))
  f228:=Tryd.func61.trans (congrArg some (by kernel_rfl))
  f231:=Tryd.func40.trans (congrArg some (by kernel_rfl))
  f232:=Tryd.func41.trans (congrArg some (by kernel_rfl))
  f233:=Tryd.func43.trans (congrArg some (by kernel_rfl))
  f234:=Tryd.func44.trans (congrArg some (by kernel_rfl))
  f235:=Tryd.func45.trans (congrArg some (by kernel_rfl))
  f236:=Tryd.func46.trans (congrArg some (by kernel_rfl))
  f260:=Tryd.func79.trans (congrArg some (by kernel_rfl))
  f266:=Tryd.func70.trans (congrArg some (by kernel_rfl))
  f271:=Tryd.func64.trans (congrArg some (by kernel_rfl))
  t0:=Tryd.underlying0
  a0:=Tryd.isAgg0
  z0:=Tryd.sizeOf0
  v0:=Tryd.zeroValue0
  t3:=Tryd.underlying3
  a3:=Tryd.isAgg3
  z3:=Tryd.sizeOf3
  v3:=Tryd.zeroValue3
  t4:=Tryd.underlying4
  a4:=Tryd.isAgg4
  z4:=Tryd.sizeOf4
  v4:=Tryd.zeroValue4
  t5:=Tryd.underlying5
  a5:=Tryd.isAgg5
  z5:=Tryd.sizeOf5
  v5:=Tryd.zeroValue5
  t9:=Tryd.underlying9
  a9:=Tryd.isAgg9
  z9:=Tryd.sizeOf9
  v9:=Tryd.zeroValue9
  t21:=Tryd.underlying21
  a21:=Tryd.isAgg21
  z21:=Tryd.sizeOf21
  v21:=Tryd.zeroValue21
  t46:=Tryd.underlying96
  a46:=Tryd.isAgg96
  z46:=Tryd.sizeOf96
  v46:=Tryd.zeroValue96
  t105:=Tryd.underlying100
  a105:=Tryd.isAgg100
  z105:=Tryd.sizeOf100
  v105:=Tryd.zeroValue100
  t116:=Tryd.underlying82
  a116:=Tryd.isAgg82
  z116:=Tryd.sizeOf82
  t117:=Tryd.underlying83
  a117:=Tryd.isAgg83
  z117:=Tryd.sizeOf83
  v117:=Tryd.zeroValue83
  t119:=Tryd.underlying125
  a119:=Tryd.isAgg125
  z119:=Tryd.sizeOf125
  t124:=Tryd.underlying86
  a124:=Tryd.isAgg86
  z124:=Tryd.sizeOf86
  v124:=Tryd.zeroValue86
  t138:=Tryd.underlying127
  a138:=Tryd.isAgg127
  z138:=Tryd.sizeOf127
  v138:=Tryd.zeroValue127
  t139:=Tryd.underlying128
  a139:=Tryd.isAgg128
  z139:=Tryd.sizeOf128
  v139:=Tryd.zeroValue128
  g3:=by kernel_rfl
  g4:=by kernel_rfl }
open Go.RowKit in
/-- strings.Trim at an ASCII cutset. -/
theorem Tryd.strings_Trim (s cutset:ByteArray) (w:World) (hs:s.size≤9223372036854775807) (hcs:cutset.size<4294967281) (hascii:∀ (j:Nat) b,cutset.data.toList[j]? = some b→b.toNat<128) :
    Calls Tryd.prog 32 #[.string s,.string cutset] w fun e w'=>e=.returned (.string ⟨(Lib.trimS s.data.toList cutset.data.toList).toArray⟩)∧Below w.heap.size w w':=Any.strings_Trim_laid Tryd.lays160s (by kernel_rfl) s cutset w hs hcs hascii
/-! ### a builder's writing, walked at this program -/
theorem Tryd.bl_size:(Tryd.prog.info? 38).map (·.size)=some 2:=by kernel_rfl
theorem Tryd.bl_lies:liesAt Tryd.prog Tryd.prog.depth 38 (2 / Tryd.prog.cellsOf 38) 0 38 1=true:=by kernel_rfl
theorem Tryd.bl_byte:(Tryd.prog.info? 5).map (fun i=>(i.zero,i.size,i.bytes))=some (some (.int .u8 0),1,1):=by kernel_rfl
set_option maxHeartbeats 1000000 in
set_option maxRecDepth 100000 in
theorem Tryd.bl_used (b:Nat) (w:World) (h0:w.cell? ⟨b,0,none⟩=some (.pointer (some ⟨b,0,none⟩))) :
    Calls Tryd.prog 25 #[.pointer (some ⟨b,0,none⟩)] w fun e w'=>e=.returned (.tuple #[])∧w'=w:=by
  obtain ⟨j,hj,_⟩:=Option.map_eq_some_iff.1 Tryd.bl_size
  go_enter Tryd.func25,Tryd.ntmps25
  go_wp2
  rw [Lib.run_neq_ptr_same w _ Tryd.underlying35 hj]
  go_wp2
  go_end0
  exact ⟨rfl,rfl⟩
set_option maxHeartbeats 1000000 in
set_option maxRecDepth 100000 in
theorem Tryd.bl_fresh (b:Nat) (w:World) (h0:w.cell? ⟨b,0,none⟩=some (.pointer none)) (hsh:w.shape? b=some (38,2)) (hfz:w.frozen? ⟨b,0,none⟩=false) :
    Calls Tryd.prog 25 #[.pointer (some ⟨b,0,none⟩)] w fun e w'=>e=.returned (.tuple #[])∧w'=w.setCell ⟨b,0,none⟩ (.pointer (some ⟨b,0,none⟩)):=by
  obtain ⟨j,hj,hjs⟩:=Option.map_eq_some_iff.1 Tryd.bl_size
  go_enter Tryd.func25,Tryd.ntmps25
  go_wp2
  rw [Lib.run_to_unsafe w ⟨b,0,none⟩ Tryd.underlying35 Tryd.underlying75 hj (by rw [hjs]; decide) hsh (Nat.zero_lt_succ 1)]
  simp only [Result.andThen]
  rw [Oper.upon_value]
  go_wp2
  rw [run_callFunc_extern Tryd.func34 (by kernel_rfl) (by kernel_rfl) (by kernel_rfl) (e:=Extern.AbiNoEscape.same) (by kernel_rfl)]
  rw [Lib.run_noEscape]
  simp only [Result.andThen]
  rw [Oper.upon_value]
  go_wp2
  rw [Lib.run_from_unsafe w ⟨b,0,none⟩ Tryd.underlying75 Tryd.underlying35 hj hsh Tryd.bl_lies]
  simp only [Result.andThen]
  rw [Oper.upon_value]
  go_wp2
  go_end0
  exact ⟨rfl,rfl⟩
theorem Tryd.Builder_copyCheck_k (B b:Nat) (bs:List Value) (w:World) (h:Lib.IsBuilderF 38 5 B b bs w) :
    Calls Tryd.prog 25 #[.pointer (some ⟨b,0,none⟩)] w fun e w'=>e=.returned (.tuple #[])∧(Lib.BuilderAtF 38 5 B b (.pointer (some ⟨b,0,none⟩)) bs w'∧Below B w w'∧Lib.OthersKept 5 (some b) w w'):=by
  rcases h with h | h
  · refine (Tryd.bl_fresh b w h.cell0 h.shape h.frozen0).mono ?_
    rintro e w' ⟨rfl,rfl⟩
    exact ⟨rfl,h.used _,(Below.refl B w).setCell (p:=⟨b,0,none⟩) h.1 _,(Lib.OthersKept.refl _ _ w).setCell ⟨b,0,none⟩ rfl _⟩
  · refine (Tryd.bl_used b w h.cell0).mono ?_
    rintro e w' ⟨rfl,rfl⟩
    exact ⟨rfl,h,Below.refl B _,Lib.OthersKept.refl _ _ _⟩
set_option maxHeartbeats 2000000 in
set_option maxRecDepth 100000 in
theorem Tryd.Builder_WriteString_k (B b:Nat) (bs:List Value) (s:ByteArray) (w:World) (h:Lib.IsBuilderF 38 5 B b bs w) (hlen:bs.length+s.size≤140737488355328) (hBw:B≤w.heap.size) :
    Calls Tryd.prog 11 #[.pointer (some ⟨b,0,none⟩),.string s] w fun e w'=>e=.returned (.tuple #[.int .i64 s.size,.nilIface])∧(Lib.BuilderAtF 38 5 B b (.pointer (some ⟨b,0,none⟩)) (bs++Lib.strCells s) w'∧Below B w w'∧Lib.OthersKept 5 (some b) w w'):=by
  obtain ⟨i0,hi,hz0,hz1,hz2⟩:=info_parts Tryd.bl_byte
  go_enter Tryd.func11,Tryd.ntmps11
  go_wp2_with (first
    | (go_at_call 25; refine (Tryd.Builder_copyCheck_k B b bs _ h).mono ?_; rintro e w1 ⟨rfl,⟨hB,v,hbk,hown,hne⟩,hb1,hk1⟩; have c0:w1.cell? ⟨b,0,none⟩=some (.pointer (some ⟨b,0,none⟩)):=(by rw [Lib.cell_of_heap hbk]; rfl); have c1:w1.cell? ⟨b,1,none⟩=some v:=(by rw [Lib.cell_of_heap hbk]; rfl))
    | (at_builtin; refine Lib.wpList_append_own_stringF _ rfl _ _ 36 9 rfl B 5 i0 Tryd.underlying36 Tryd.underlying9 hi hz0 hz1 hz2 _ _ _ rfl hown s rfl ?c3 ?c4 ?c5 ?_))
  case c3=>unfold maxLen; omega
  case c4=>omega
  case c5=>have:=hb1.size; omega
  intro v' w2 hown' hgrow _
  have hlt:b<w1.heap.size:=by
    rcases Nat.lt_or_ge b w1.heap.size with h' | h'
    · exact h'
    · simp [Array.getElem?_eq_none h'] at hbk
  have hb2:w2.heap[b]? = some (.cells #[.pointer (some ⟨b,0,none⟩),v] 38 (0,0)):=by
    rw [hgrow.block b hlt (fun e=>hne e.symm)]
    exact hbk
  have d0:w2.cell? ⟨b,0,none⟩=some (.pointer (some ⟨b,0,none⟩)):=by rw [Lib.cell_of_heap hb2]; rfl
  have d1:w2.cell? ⟨b,1,none⟩=some v:=by rw [Lib.cell_of_heap hb2]; rfl
  have f1:w2.frozen? ⟨b,1,none⟩=false:=Lib.frozen_of_heap hb2 1
  obtain ⟨ao,n',cap,rfl⟩:∃ ao n' cap,v'=.slice ao n' cap:=by
    rcases hown'.2 with ⟨hv,_⟩ | ⟨g,cap,cur,fz,hv,_⟩
    · exact ⟨_,_,_,hv⟩
    · exact ⟨_,_,_,hv⟩
  go_wp2
  go_ret2
  refine ⟨rfl,?_,?_,(hk1.grown hgrow (Lib.ownsRowF_kind hown)).setCell ⟨b,1,none⟩ rfl _⟩
  · exact Lib.BuilderAtF.put (T:=38) (e:=5) hB hb2 (bs':=bs++Lib.strCells s) (by simpa [Lib.strCells_length] using hown') (by decide)
  · exact (hb1.grown hgrow (by have:=hb1.size; omega) (fun k hk=>(hown.lt k hk).1)).setCell (p:=⟨b,1,none⟩) hB _
set_option maxHeartbeats 2000000 in
set_option maxRecDepth 1000000 in
theorem Tryd.Builder_Grow_fresh (B b n:Nat) (w:World) (hB:B≤b) (hbk:w.heap[b]? = some (.cells #[.pointer none,.slice none 0 0] 38 (0,0))) (hBw:B≤w.heap.size) (hn:n≤281474976710656) :
    Calls Tryd.prog 26 #[.pointer (some ⟨b,0,none⟩),.int .i64 n] w fun e w'=>e=.returned (.tuple #[])∧(Lib.BuilderAt 38 5 B b (.pointer (some ⟨b,0,none⟩)) [] w'∧Below B w w'):=by
  have hbk1:(w.setCell ⟨b,0,none⟩ (.pointer (some ⟨b,0,none⟩))).heap[b]? = some (.cells #[.pointer (some ⟨b,0,none⟩),.slice none 0 0] 38 (0,0)):=by
    simp [World.setCell,Array.getElem?_modify,hbk]
  have c1:(w.setCell ⟨b,0,none⟩ (.pointer (some ⟨b,0,none⟩))).cell? ⟨b,1,none⟩=some (.slice none 0 0):=by rw [Lib.cell_of_heap hbk1]; rfl
  have hb1:Below B w (w.setCell ⟨b,0,none⟩ (.pointer (some ⟨b,0,none⟩))):=(Below.refl B w).setCell (p:=⟨b,0,none⟩) hB _
  go_enter Tryd.func26,Tryd.ntmps26
  have hU:Lib.BuilderAt 38 5 B b (.pointer (some ⟨b,0,none⟩)) [] (w.setCell ⟨b,0,none⟩ (.pointer (some ⟨b,0,none⟩))):=⟨hB,.slice none 0 0,hbk1,World.ownsRow_nil _ _ _ _,by simp [Value.ownBlock]⟩
  have c1':(w.setCell ⟨b,0,none⟩ (.pointer (some ⟨b,0,none⟩))).drew.cell? ⟨b,1,none⟩=some (.slice none 0 0):=c1
  go_wp2_with (go_at_call 25; refine (Tryd.bl_fresh b w (by rw [Lib.cell_of_heap hbk]; rfl) (by simp [World.shape?,hbk]) (Lib.frozen_of_heap hbk 0)).mono ?_; rintro e w' ⟨rfl,rfl⟩)
  go_region
  all_goals go_wp2_with (go_at_call 35; refine (Tryd.Builder_grow_fresh B b n (w.setCell ⟨b,0,none⟩ (.pointer (some ⟨b,0,none⟩))).drew hB hbk1 (by simpa [World.setCell,World.drew,-World.drew_eq] using hBw) hn).mono ?_; rintro e w' ⟨rfl,h1,h2⟩)
  all_goals first
    | (go_end0; exact ⟨rfl,h1,hb1.drew.trans h2⟩)
    | (go_end0; exact ⟨rfl,hU.drew,hb1.drew⟩)
end Go.Proofs.YtphcmcgdinkjbaaDoor.Shelf
