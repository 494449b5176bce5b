/-
  Texts of the claims on chapter 3: Yk2c. No condition: lemmas and contracts.
-/
import Derived.Shelf.Small.Bits
import Derived.Shelf.Small.Strs
import Derived.Shelf.Utf8.RuneCount
import Derived.Shelf.Strconv.Atoi
import Derived.Shelf.Strconv.Itoa0
import Derived.Shelf.Strconv.Itoa1
import Derived.Shelf.LaysM
import Derived.Shelf.Strconv.Itoa2
import Derived.Shelf.Strconv.Itoa3
import Derived.Shelf.Strconv.AtoiErrFast
import Derived.Shelf.Strconv.ParseIntEmpty
import Derived.Shelf.Strconv.AtoiFail
import Derived.Shelf.Strconv.Clone
import Derived.Shelf.Strconv.SyntaxError
import Derived.Shelf.LaysC
import Derived.Shelf.Strconv.ToError
import Derived.Shelf.Strconv.Lower
import Derived.Shelf.Strconv.ParseUint10
import Derived.Shelf.Strconv.ParseUint10Empty
import Derived.Shelf.Strconv.ParseUint10Any
import Derived.Shelf.Strconv.ParseInt10
import Derived.Shelf.Strconv.AtoiLong
import Derived.Shelf.Strconv.AtoiInnerAll
import Derived.Shelf.Strconv.RangeError
import Derived.Shelf.Strconv.ToErrorRange
import Derived.Shelf.Strconv.AtoiAll
import Derived.Shelf.Strings.Search1
import Derived.Shelf.Strings.Search2
import Derived.Shelf.Strings.Search3
import Derived.Shelf.Strings.Count
import Derived.Shelf.Strings.Shaped
import Derived.Shelf.Strings.Prefix
import Derived.Shelf.Strings.Split
import Derived.Shelf.Strings.SplitShaped
import Derived.Shelf.Unicode.Decode
import Derived.Shelf.Strings.RuneCount
import Derived.Shelf.Strings.Explode
import Derived.Shelf.Unicode.DecodeSlow
import Derived.Shelf.Unicode.DecodeAny
import Derived.Test.YthejmgnkenokpaaGreatDoorProg
import Derived.Test.YthejmgnkenokpaaGreatDoorYk1c
import Derived.Lib.SplitLaws
import Derived.Test.YthejmgnkenokpaaGreatDoorSy5c
import Derived.Test.YthejmgnkenokpaaGreatDoorQ25c
import Derived.Stop.LaidErr
set_option linter.all false
set_option maxRecDepth 100000
set_option maxHeartbeats 4000000
section
namespace Go.Proofs
open Go.Shelf
def Tryz.aif : Go.Shelf.Ren:=⟨fun | 137 => 109 | 217 => 137 | 266 => 163 | n => n,fun | 9 => 9 | 5 => 5 | 3 => 3 | n => n,fun | n => n⟩
theorem Tryz.ajm : Go.Proofs.Lays.n137 Tryz.prog Tryz.aif:={
 mixed:=by kernel_rfl
 f137:=Tryz.func109.trans (congrArg some (by kernel_rfl))
 f217:=Tryz.func137.trans (congrArg some (by kernel_rfl))
 f266:=Tryz.func163.trans (congrArg some (by kernel_rfl))
 t3:=Tryz.underlying3
 a3:=Tryz.isAgg3
 z3:=Tryz.sizeOf3
 v3:=Tryz.zeroValue3
 t5:=Tryz.underlying5
 a5:=Tryz.isAgg5
 z5:=Tryz.sizeOf5
 v5:=Tryz.zeroValue5
 t9:=Tryz.underlying9
 a9:=Tryz.isAgg9
 z9:=Tryz.sizeOf9
 v9:=Tryz.zeroValue9 }
open Go.RowKit in
theorem Tryz.strings_IndexByte (s : ByteArray) (c : Int) (w : World) :
  Calls Tryz.prog 109 #[.string s,.int .u8 c] w fun e w' => e = .returned (.int .i64 (Lib.indexByte s.data.toList c.toNat.toUInt8)) /\ w' = w:=Any.strings_IndexByte Tryz.ajm s c w
open Go.RowKit Go.Sort Go.Lib in
def Tryz.CP : Go.Shelf.Ren:=⟨fun | 171 => 107 | 243 => 136 | 246 => 162 | 283 => 172 | 284 => 173 | 285 => 174 | 286 => 175 | 129 => 133 | 317 => 182 | 318 => 183 | 319 => 184 | 320 => 185 | 337 => 187 | 338 => 188 | n => n,fun | 3 => 3 | 9 => 9 | 2 => 2 | 4 => 4 | 171 => 221 | 0 => 0 | 53 => 192 | 37 => 167 | 5 => 5 | 173 => 223 | 212 => 231 | 51 => 190 | 20 => 20 | 213 => 232 | 46 => 159 | 232 => 239 | 233 => 240 | n => n,fun | 17 => 3 | 18 => 6 | 19 => 7 | n => n⟩
theorem Tryz.Lw : Go.Proofs.Lays.n171 Tryz.prog Tryz.CP:={
 mixed:=by kernel_rfl
 f129:=Tryz.func133.trans (congrArg some (by kernel_rfl))
 f171:=Tryz.func107.trans (congrArg some (by kernel_rfl))
 f243:=Tryz.func136.trans (congrArg some (by kernel_rfl))
 f246:=Tryz.func162.trans (congrArg some (by kernel_rfl))
 f283:=Tryz.func172.trans (congrArg some (by kernel_rfl))
 f284:=Tryz.func173.trans (congrArg some (by kernel_rfl))
 f285:=Tryz.func174.trans (congrArg some (by kernel_rfl))
 f286:=Tryz.func175.trans (congrArg some (by kernel_rfl))
 f317:=Tryz.func182.trans (congrArg some (by kernel_rfl))
 f318:=Tryz.func183.trans (congrArg some (by kernel_rfl))
 f319:=Tryz.func184.trans (congrArg some (by kernel_rfl))
 f320:=Tryz.func185.trans (congrArg some (by kernel_rfl))
 f337:=Tryz.func187.trans (congrArg some (by kernel_rfl))
 f338:=Tryz.func188.trans (congrArg some (by kernel_rfl))
 t0:=Tryz.underlying0
 a0:=Tryz.isAgg0
 z0:=Tryz.sizeOf0
 v0:=Tryz.zeroValue0
 t2:=Tryz.underlying2
 a2:=Tryz.isAgg2
 z2:=Tryz.sizeOf2
 v2:=Tryz.zeroValue2
 t3:=Tryz.underlying3
 a3:=Tryz.isAgg3
 z3:=Tryz.sizeOf3
 v3:=Tryz.zeroValue3
 t4:=Tryz.underlying4
 a4:=Tryz.isAgg4
 z4:=Tryz.sizeOf4
 v4:=Tryz.zeroValue4
 t5:=Tryz.underlying5
 a5:=Tryz.isAgg5
 z5:=Tryz.sizeOf5
 v5:=Tryz.zeroValue5
 t9:=Tryz.underlying9
 a9:=Tryz.isAgg9
 z9:=Tryz.sizeOf9
 v9:=Tryz.zeroValue9
 t20:=Tryz.underlying20
 a20:=Tryz.isAgg20
 z20:=Tryz.sizeOf20
 v20:=Tryz.zeroValue20
 t37:=Tryz.underlying167
 a37:=Tryz.isAgg167
 z37:=Tryz.sizeOf167
 v37:=Tryz.zeroValue167
 t46:=Tryz.underlying159
 a46:=Tryz.isAgg159
 z46:=Tryz.sizeOf159
 v46:=Tryz.zeroValue159
 t51:=Tryz.underlying190
 a51:=Tryz.isAgg190
 z51:=Tryz.sizeOf190
 v51:=Tryz.zeroValue190
 t53:=Tryz.underlying192
 a53:=Tryz.isAgg192
 z53:=Tryz.sizeOf192
 v53:=Tryz.zeroValue192
 t171:=Tryz.underlying221
 a171:=Tryz.isAgg221
 z171:=Tryz.sizeOf221
 v171:=Tryz.zeroValue221
 t173:=Tryz.underlying223
 a173:=Tryz.isAgg223
 z173:=Tryz.sizeOf223
 v173:=Tryz.zeroValue223
 t212:=Tryz.underlying231
 a212:=Tryz.isAgg231
 z212:=Tryz.sizeOf231
 v212:=Tryz.zeroValue231
 t213:=Tryz.underlying232
 a213:=Tryz.isAgg232
 z213:=Tryz.sizeOf232
 t232:=Tryz.underlying239
 a232:=Tryz.isAgg239
 z232:=Tryz.sizeOf239
 v232:=Tryz.zeroValue239
 t233:=Tryz.underlying240
 a233:=Tryz.isAgg240
 z233:=Tryz.sizeOf240
 v233:=Tryz.zeroValue240
 g17:=by kernel_rfl
 g18:=by kernel_rfl
 g19:=by kernel_rfl }
open Go.RowKit Go.Sort Go.Lib in
theorem Tryz.strconv_Itoa_small (i : Nat) (hi : i < 100) (w : World) :
  Calls Tryz.prog 107 #[.int .i64 i] w fun e w' => e = .returned (.string ⟨(Lib.decDigits i).toArray⟩) /\ w' = w:=Any.strconv_Itoa_small Tryz.Lw i hi w
open Go.RowKit in
def Tryz.ah8 : Go.Shelf.Ren:=⟨fun | 172 => 73 | 244 => 112 | 245 => 113 | 247 => 142 | 279 => 143 | 280 => 144 | 281 => 145 | 282 => 146 | 287 => 168 | 316 => 169 | 171 => 107 | 205 => 170 | 321 => 180 | 322 => 181 | 243 => 136 | 246 => 162 | 283 => 172 | 284 => 173 | 285 => 174 | 286 => 175 | 129 => 133 | 317 => 182 | 318 => 183 | 319 => 184 | 320 => 185 | 337 => 187 | 338 => 188 | n => n,fun | 9 => 9 | 3 => 3 | 75 => 119 | 76 => 120 | 4 => 4 | 5 => 5 | 167 => 197 | 37 => 167 | 0 => 0 | 85 => 198 | 2 => 2 | 168 => 200 | 53 => 192 | 175 => 213 | 46 => 159 | 210 => 217 | 127 => 226 | 145 => 229 | 143 => 227 | 21 => 21 | 171 => 221 | 173 => 223 | 212 => 231 | 51 => 190 | 20 => 20 | 213 => 232 | 232 => 239 | 233 => 240 | 80 => 241 | n => n,fun | 15 => 0 | 16 => 1 | 17 => 3 | 18 => 6 | 19 => 7 | n => n⟩
theorem Tryz.ahn : Go.Proofs.LaysC.n172 Tryz.prog Tryz.ah8:={
 mixed:=by kernel_rfl
 f129:=Tryz.func133.trans (congrArg some (by kernel_rfl))
 f171:=Tryz.func107.trans (congrArg some (by kernel_rfl))
 f172:=Tryz.func73.trans (congrArg some (by kernel_rfl))
 f205:=Tryz.func170.trans (congrArg some (by kernel_rfl))
 f243:=Tryz.func136.trans (congrArg some (by kernel_rfl))
 f244:=Tryz.func112.trans (congrArg some (by kernel_rfl))
 f245:=Tryz.func113.trans (congrArg some (by kernel_rfl))
 f246:=Tryz.func162.trans (congrArg some (by kernel_rfl))
 f247:=Tryz.func142.trans (congrArg some (by kernel_rfl))
 f279:=Tryz.func143.trans (congrArg some (by kernel_rfl))
 f280:=Tryz.func144.trans (congrArg some (by kernel_rfl))
 f281:=Tryz.func145.trans (congrArg some (by kernel_rfl))
 f282:=Tryz.func146.trans (congrArg some (by kernel_rfl))
 f283:=Tryz.func172.trans (congrArg some (by kernel_rfl))
 f284:=Tryz.func173.trans (congrArg some (by kernel_rfl))
 f285:=Tryz.func174.trans (congrArg some (by kernel_rfl))
 f286:=Tryz.func175.trans (congrArg some (by kernel_rfl))
 f287:=Tryz.func168.trans (congrArg some (by kernel_rfl))
 f316:=Tryz.func169.trans (congrArg some (by kernel_rfl))
 f317:=Tryz.func182.trans (congrArg some (by kernel_rfl))
 f318:=Tryz.func183.trans (congrArg some (by kernel_rfl))
 f319:=Tryz.func184.trans (congrArg some (by kernel_rfl))
 f320:=Tryz.func185.trans (congrArg some (by kernel_rfl))
 f321:=Tryz.func180.trans (congrArg some (by kernel_rfl))
 f322:=Tryz.func181.trans (congrArg some (by kernel_rfl))
 f337:=Tryz.func187.trans (congrArg some (by kernel_rfl))
 f338:=Tryz.func188.trans (congrArg some (by kernel_rfl))
 t0:=Tryz.underlying0
 a0:=Tryz.isAgg0
 z0:=Tryz.sizeOf0
 v0:=Tryz.zeroValue0
 t2:=Tryz.underlying2
 a2:=Tryz.isAgg2
 z2:=Tryz.sizeOf2
 v2:=Tryz.zeroValue2
 t3:=Tryz.underlying3
 a3:=Tryz.isAgg3
 z3:=Tryz.sizeOf3
 v3:=Tryz.zeroValue3
 t4:=Tryz.underlying4
 a4:=Tryz.isAgg4
 z4:=Tryz.sizeOf4
 v4:=Tryz.zeroValue4
 t5:=Tryz.underlying5
 a5:=Tryz.isAgg5
 z5:=Tryz.sizeOf5
 v5:=Tryz.zeroValue5
 t9:=Tryz.underlying9
 a9:=Tryz.isAgg9
 z9:=Tryz.sizeOf9
 v9:=Tryz.zeroValue9
 t20:=Tryz.underlying20
 a20:=Tryz.isAgg20
 z20:=Tryz.sizeOf20
 v20:=Tryz.zeroValue20
 t21:=Tryz.underlying21
 a21:=Tryz.isAgg21
 z21:=Tryz.sizeOf21
 v21:=Tryz.zeroValue21
 t37:=Tryz.underlying167
 a37:=Tryz.isAgg167
 z37:=Tryz.sizeOf167
 v37:=Tryz.zeroValue167
 t46:=Tryz.underlying159
 a46:=Tryz.isAgg159
 z46:=Tryz.sizeOf159
 v46:=Tryz.zeroValue159
 t51:=Tryz.underlying190
 a51:=Tryz.isAgg190
 z51:=Tryz.sizeOf190
 v51:=Tryz.zeroValue190
 t53:=Tryz.underlying192
 a53:=Tryz.isAgg192
 z53:=Tryz.sizeOf192
 v53:=Tryz.zeroValue192
 t75:=Tryz.underlying119
 a75:=Tryz.isAgg119
 z75:=Tryz.sizeOf119
 v75:=Tryz.zeroValue119
 t76:=Tryz.underlying120
 a76:=Tryz.isAgg120
 z76:=Tryz.sizeOf120
 v76:=Tryz.zeroValue120
 t85:=Tryz.underlying198
 a85:=Tryz.isAgg198
 z85:=Tryz.sizeOf198
 v85:=Tryz.zeroValue198
 t127:=Tryz.underlying226
 a127:=Tryz.isAgg226
 z127:=Tryz.sizeOf226
 v127:=Tryz.zeroValue226
 t143:=Tryz.underlying227
 a143:=Tryz.isAgg227
 z143:=Tryz.sizeOf227
 v143:=Tryz.zeroValue227
 t145:=Tryz.underlying229
 a145:=Tryz.isAgg229
 z145:=Tryz.sizeOf229
 v145:=Tryz.zeroValue229
 t167:=Tryz.underlying197
 a167:=Tryz.isAgg197
 z167:=Tryz.sizeOf197
 v167:=Tryz.zeroValue197
 t168:=Tryz.underlying200
 a168:=Tryz.isAgg200
 z168:=Tryz.sizeOf200
 v168:=Tryz.zeroValue200
 t171:=Tryz.underlying221
 a171:=Tryz.isAgg221
 z171:=Tryz.sizeOf221
 v171:=Tryz.zeroValue221
 t173:=Tryz.underlying223
 a173:=Tryz.isAgg223
 z173:=Tryz.sizeOf223
 v173:=Tryz.zeroValue223
 t175:=Tryz.underlying213
 a175:=Tryz.isAgg213
 z175:=Tryz.sizeOf213
 v175:=Tryz.zeroValue213
 t210:=Tryz.underlying217
 a210:=Tryz.isAgg217
 z210:=Tryz.sizeOf217
 v210:=Tryz.zeroValue217
 t212:=Tryz.underlying231
 a212:=Tryz.isAgg231
 z212:=Tryz.sizeOf231
 v212:=Tryz.zeroValue231
 t213:=Tryz.underlying232
 a213:=Tryz.isAgg232
 z213:=Tryz.sizeOf232
 t232:=Tryz.underlying239
 a232:=Tryz.isAgg239
 z232:=Tryz.sizeOf239
 v232:=Tryz.zeroValue239
 t233:=Tryz.underlying240
 a233:=Tryz.isAgg240
 z233:=Tryz.sizeOf240
 v233:=Tryz.zeroValue240
 g15:=by kernel_rfl
 g16:=by kernel_rfl
 g17:=by kernel_rfl
 g18:=by kernel_rfl
 g19:=by kernel_rfl
 t80:=Tryz.underlying241
 a80:=Tryz.isAgg241
 z80:=Tryz.sizeOf241
 v80:=Tryz.zeroValue241
 i0:=by kernel_rfl
 i2:=by kernel_rfl
 i3:=by kernel_rfl
 i4:=by kernel_rfl
 i5:=by kernel_rfl
 i9:=by kernel_rfl
 i20:=by kernel_rfl
 i21:=by kernel_rfl
 i37:=by kernel_rfl
 i46:=by kernel_rfl
 i51:=by kernel_rfl
 i53:=by kernel_rfl
 i75:=by kernel_rfl
 i76:=by kernel_rfl
 i80:=by kernel_rfl
 i85:=by kernel_rfl
 i127:=by kernel_rfl
 i143:=by kernel_rfl
 i145:=by kernel_rfl
 i167:=by kernel_rfl
 i168:=by kernel_rfl
 i171:=by kernel_rfl
 i173:=by kernel_rfl
 i175:=by kernel_rfl
 i210:=by kernel_rfl
 i212:=by kernel_rfl
 i232:=by kernel_rfl
 i233:=by kernel_rfl
 m15:=by kernel_rfl
 m16:=by kernel_rfl
 m17:=by kernel_rfl
 m18:=by kernel_rfl
 m19:=by kernel_rfl
 c0:=by kernel_rfl
 c2:=by kernel_rfl
 c3:=by kernel_rfl
 c4:=by kernel_rfl
 c5:=by kernel_rfl
 c9:=by kernel_rfl
 c20:=by kernel_rfl
 c21:=by kernel_rfl
 c37:=by kernel_rfl
 c46:=by kernel_rfl
 c51:=by kernel_rfl
 c53:=by kernel_rfl
 c75:=by kernel_rfl
 c76:=by kernel_rfl
 c80:=by kernel_rfl
 c85:=by kernel_rfl
 c127:=by kernel_rfl
 c143:=by kernel_rfl
 c145:=by kernel_rfl
 c167:=by kernel_rfl
 c168:=by kernel_rfl
 c171:=by kernel_rfl
 c173:=by kernel_rfl
 c175:=by kernel_rfl
 c210:=by kernel_rfl
 c212:=by kernel_rfl
 c213:=by kernel_rfl
 c232:=by kernel_rfl
 c233:=by kernel_rfl }
open Go.RowKit in
theorem Tryz.strconv_Atoi_ok (s : ByteArray) (hmax : s.size <= 9223372036854775806) (v : Int) (h : Lib.atoiAll s.data.toList = .ok v) (w : World) :
  Calls Tryz.prog 73 #[.string s] w fun e w' => e = .returned (.tuple #[.int .i64 v,.nilIface]) /\ (w' = w \/ ∃ t,w' = Lib.bytesWorld w 5 t):=Any.strconv_Atoi_ok Tryz.ahn s hmax v h w
open Go.RowKit in
theorem Tryz.strconv_Atoi_syntax (s : ByteArray) (hlim : s.size <= 281474976710656) (h : Lib.atoiAll s.data.toList = .«syntax») (ev : Value) (w : World) (hv : w.cell? ⟨0,0,none⟩ = some ev) (hev : ev = .nilIface \/ ∃ te pe,ev = .iface te pe) :
  Calls Tryz.prog 73 #[.string s] w fun e w' => ∃ N,e = .returned (.tuple #[.int .i64 (0),.iface 200 (.pointer (some ⟨N,0,none⟩))]) /\ w.heap.size <= N /\ w'.heap[N]? = some (.cells #[.string ⟨#[65,116,111,105]⟩,.string s,ev] 217 (0,0)) /\ Below w.heap.size w w':=Any.strconv_Atoi_syntax Tryz.ahn s hlim h ev w hv hev
open Go.RowKit in
theorem Tryz.strconv_Atoi_range (s : ByteArray) (hlim : s.size <= 281474976710656) (h : Lib.atoiAll s.data.toList = .range) (ev : Value) (w : World) (hv : w.cell? ⟨1,0,none⟩ = some ev) (hev : ev = .nilIface \/ ∃ te pe,ev = .iface te pe) :
  Calls Tryz.prog 73 #[.string s] w fun e w' => ∃ N,e = .returned (.tuple #[.int .i64 (Lib.atoiSat s.data.toList),.iface 200 (.pointer (some ⟨N,0,none⟩))]) /\ w.heap.size <= N /\ w'.heap[N]? = some (.cells #[.string ⟨#[65,116,111,105]⟩,.string s,ev] 217 (0,0)) /\ Below w.heap.size w w':=Any.strconv_Atoi_range Tryz.ahn s hlim h ev w hv hev
open Go.RowKit Go.Lib in
def Tryz.aie : Go.Shelf.Ren:=⟨fun | 102 => 72 | 209 => 111 | 207 => 141 | n => n,fun | 9 => 9 | 4 => 4 | 3 => 3 | n => n,fun | n => n⟩
theorem Tryz.ajl : Go.Proofs.Lays.n102 Tryz.prog Tryz.aie:={
 mixed:=by kernel_rfl
 f102:=Tryz.func72.trans (congrArg some (by kernel_rfl))
 f207:=Tryz.func141.trans (congrArg some (by kernel_rfl))
 f209:=Tryz.func111.trans (congrArg some (by kernel_rfl))
 t3:=Tryz.underlying3
 a3:=Tryz.isAgg3
 z3:=Tryz.sizeOf3
 v3:=Tryz.zeroValue3
 t4:=Tryz.underlying4
 a4:=Tryz.isAgg4
 z4:=Tryz.sizeOf4
 v4:=Tryz.zeroValue4
 t9:=Tryz.underlying9
 a9:=Tryz.isAgg9
 z9:=Tryz.sizeOf9
 v9:=Tryz.zeroValue9 }
open Go.RowKit Go.Lib in
theorem Tryz.strings_TrimSuffix (s p : ByteArray) (w : World) (hs : s.size <= 9223372036854775807) :
  Calls Tryz.prog 72 #[.string s,.string p] w fun e w' => e = .returned (.string ⟨(Lib.trimSuffix s.data.toList p.data.toList).toArray⟩) /\ w' = w:=Any.strings_TrimSuffix Tryz.ajl s p w hs
open Go.RowKit Go.Lib in
def Tryz.aih : Go.Shelf.Ren:=⟨fun | 146 => 71 | 221 => 110 | 268 => 138 | 138 => 139 | 143 => 140 | 195 => 164 | 197 => 165 | 218 => 166 | 219 => 167 | 260 => 176 | 217 => 137 | 225 => 177 | 224 => 178 | 267 => 179 | 266 => 163 | 314 => 186 | n => n,fun | 9 => 9 | 31 => 115 | 3 => 3 | 4 => 4 | 0 => 0 | 105 => 211 | 21 => 21 | 5 => 5 | 46 => 159 | 119 => 233 | 139 => 236 | 138 => 235 | 146 => 237 | 51 => 190 | n => n,fun | 1 => 2 | 3 => 4 | 4 => 5 | n => n⟩
theorem Tryz.ajn : Go.Proofs.Lays.n146 Tryz.prog Tryz.aih:={
 mixed:=by kernel_rfl
 f138:=Tryz.func139.trans (congrArg some (by kernel_rfl))
 f143:=Tryz.func140.trans (congrArg some (by kernel_rfl))
 f146:=Tryz.func71.trans (congrArg some (by kernel_rfl))
 f195:=Tryz.func164.trans (congrArg some (by kernel_rfl))
 f197:=Tryz.func165.trans (congrArg some (by kernel_rfl))
 f217:=Tryz.func137.trans (congrArg some (by kernel_rfl))
 f218:=Tryz.func166.trans (congrArg some (by kernel_rfl))
 f219:=Tryz.func167.trans (congrArg some (by kernel_rfl))
 f221:=Tryz.func110.trans (congrArg some (by kernel_rfl))
 f224:=Tryz.func178.trans (congrArg some (by kernel_rfl))
 f225:=Tryz.func177.trans (congrArg some (by kernel_rfl))
 f260:=Tryz.func176.trans (congrArg some (by kernel_rfl))
 f266:=Tryz.func163.trans (congrArg some (by kernel_rfl))
 f267:=Tryz.func179.trans (congrArg some (by kernel_rfl))
 f268:=Tryz.func138.trans (congrArg some (by kernel_rfl))
 f314:=Tryz.func186.trans (congrArg some (by kernel_rfl))
 t0:=Tryz.underlying0
 a0:=Tryz.isAgg0
 z0:=Tryz.sizeOf0
 v0:=Tryz.zeroValue0
 t3:=Tryz.underlying3
 a3:=Tryz.isAgg3
 z3:=Tryz.sizeOf3
 v3:=Tryz.zeroValue3
 t4:=Tryz.underlying4
 a4:=Tryz.isAgg4
 z4:=Tryz.sizeOf4
 v4:=Tryz.zeroValue4
 t5:=Tryz.underlying5
 a5:=Tryz.isAgg5
 z5:=Tryz.sizeOf5
 v5:=Tryz.zeroValue5
 t9:=Tryz.underlying9
 a9:=Tryz.isAgg9
 z9:=Tryz.sizeOf9
 v9:=Tryz.zeroValue9
 t21:=Tryz.underlying21
 a21:=Tryz.isAgg21
 z21:=Tryz.sizeOf21
 v21:=Tryz.zeroValue21
 t31:=Tryz.underlying115
 a31:=Tryz.isAgg115
 z31:=Tryz.sizeOf115
 v31:=Tryz.zeroValue115
 t46:=Tryz.underlying159
 a46:=Tryz.isAgg159
 z46:=Tryz.sizeOf159
 v46:=Tryz.zeroValue159
 t51:=Tryz.underlying190
 a51:=Tryz.isAgg190
 z51:=Tryz.sizeOf190
 v51:=Tryz.zeroValue190
 t105:=Tryz.underlying211
 a105:=Tryz.isAgg211
 z105:=Tryz.sizeOf211
 v105:=Tryz.zeroValue211
 t119:=Tryz.underlying233
 a119:=Tryz.isAgg233
 z119:=Tryz.sizeOf233
 t138:=Tryz.underlying235
 a138:=Tryz.isAgg235
 z138:=Tryz.sizeOf235
 v138:=Tryz.zeroValue235
 t139:=Tryz.underlying236
 a139:=Tryz.isAgg236
 z139:=Tryz.sizeOf236
 v139:=Tryz.zeroValue236
 t146:=Tryz.underlying237
 a146:=Tryz.isAgg237
 z146:=Tryz.sizeOf237
 v146:=Tryz.zeroValue237
 g1:=by kernel_rfl
 g3:=by kernel_rfl
 g4:=by kernel_rfl }
open Go.RowKit Go.Lib in
theorem Tryz.strings_Split (s sep : ByteArray) (m : Int) (w : World) (hs : s.size < 4294967281) (hm : w.cell? ⟨2,0,none⟩ = some (.int .i64 m)) (h1 : 1 <= sep.size) :
  Calls Tryz.prog 71 #[.string s,.string sep] w fun e w' =>
   e = .returned (.slice (some ⟨w.heap.size,0,none⟩) (Lib.countB s sep + 1) (Lib.countB s sep + 1)) /\ w' = w.alloc (.cells ((Lib.splitB sep 0 (Lib.countB s sep) s).map Value.string).toArray 9):=Any.strings_Split Tryz.ajn (by kernel_rfl) s sep m w hs hm h1
def Tryz.ah9 : Go.Shelf.Ren:=⟨fun | 146 => 71 | 221 => 110 | 268 => 138 | 138 => 139 | 143 => 140 | 195 => 164 | 197 => 165 | 218 => 166 | 219 => 167 | 260 => 176 | 217 => 137 | 225 => 177 | 224 => 178 | 267 => 179 | 266 => 163 | 314 => 186 | n => n,fun | 9 => 9 | 31 => 115 | 3 => 3 | 4 => 4 | 0 => 0 | 105 => 211 | 21 => 21 | 5 => 5 | 46 => 159 | 119 => 233 | 139 => 236 | 138 => 235 | 146 => 237 | 51 => 190 | n => n,fun | 1 => 2 | 3 => 4 | 4 => 5 | n => n⟩
theorem Tryz.aiZ : Go.Proofs.LaysM.n146 Tryz.prog Tryz.ah9:={
 mixed:=by kernel_rfl
 f138:=Tryz.func139.trans (congrArg some (by kernel_rfl))
 f143:=Tryz.func140.trans (congrArg some (by kernel_rfl))
 f146:=Tryz.func71.trans (congrArg some (by kernel_rfl))
 f195:=Tryz.func164.trans (congrArg some (by kernel_rfl))
 f197:=Tryz.func165.trans (congrArg some (by kernel_rfl))
 f217:=Tryz.func137.trans (congrArg some (by kernel_rfl))
 f218:=Tryz.func166.trans (congrArg some (by kernel_rfl))
 f219:=Tryz.func167.trans (congrArg some (by kernel_rfl))
 f221:=Tryz.func110.trans (congrArg some (by kernel_rfl))
 f224:=Tryz.func178.trans (congrArg some (by kernel_rfl))
 f225:=Tryz.func177.trans (congrArg some (by kernel_rfl))
 f260:=Tryz.func176.trans (congrArg some (by kernel_rfl))
 f266:=Tryz.func163.trans (congrArg some (by kernel_rfl))
 f267:=Tryz.func179.trans (congrArg some (by kernel_rfl))
 f268:=Tryz.func138.trans (congrArg some (by kernel_rfl))
 f314:=Tryz.func186.trans (congrArg some (by kernel_rfl))
 t0:=Tryz.underlying0
 a0:=Tryz.isAgg0
 z0:=Tryz.sizeOf0
 v0:=Tryz.zeroValue0
 t3:=Tryz.underlying3
 a3:=Tryz.isAgg3
 z3:=Tryz.sizeOf3
 v3:=Tryz.zeroValue3
 t4:=Tryz.underlying4
 a4:=Tryz.isAgg4
 z4:=Tryz.sizeOf4
 v4:=Tryz.zeroValue4
 t5:=Tryz.underlying5
 a5:=Tryz.isAgg5
 z5:=Tryz.sizeOf5
 v5:=Tryz.zeroValue5
 t9:=Tryz.underlying9
 a9:=Tryz.isAgg9
 z9:=Tryz.sizeOf9
 v9:=Tryz.zeroValue9
 t21:=Tryz.underlying21
 a21:=Tryz.isAgg21
 z21:=Tryz.sizeOf21
 v21:=Tryz.zeroValue21
 t31:=Tryz.underlying115
 a31:=Tryz.isAgg115
 z31:=Tryz.sizeOf115
 v31:=Tryz.zeroValue115
 t46:=Tryz.underlying159
 a46:=Tryz.isAgg159
 z46:=Tryz.sizeOf159
 v46:=Tryz.zeroValue159
 t51:=Tryz.underlying190
 a51:=Tryz.isAgg190
 z51:=Tryz.sizeOf190
 v51:=Tryz.zeroValue190
 t105:=Tryz.underlying211
 a105:=Tryz.isAgg211
 z105:=Tryz.sizeOf211
 v105:=Tryz.zeroValue211
 t119:=Tryz.underlying233
 a119:=Tryz.isAgg233
 z119:=Tryz.sizeOf233
 t138:=Tryz.underlying235
 a138:=Tryz.isAgg235
 z138:=Tryz.sizeOf235
 v138:=Tryz.zeroValue235
 t139:=Tryz.underlying236
 a139:=Tryz.isAgg236
 z139:=Tryz.sizeOf236
 v139:=Tryz.zeroValue236
 t146:=Tryz.underlying237
 a146:=Tryz.isAgg237
 z146:=Tryz.sizeOf237
 v146:=Tryz.zeroValue237
 g1:=by kernel_rfl
 g3:=by kernel_rfl
 g4:=by kernel_rfl
 i0:=by kernel_rfl
 i3:=by kernel_rfl
 i4:=by kernel_rfl
 i5:=by kernel_rfl
 i9:=by kernel_rfl
 i21:=by kernel_rfl
 i31:=by kernel_rfl
 i46:=by kernel_rfl
 i51:=by kernel_rfl
 i105:=by kernel_rfl
 i138:=by kernel_rfl
 i139:=by kernel_rfl
 i146:=by kernel_rfl
 m1:=by kernel_rfl
 s1_3:=fun w h => Go.Proofs.cell_of_shapedOpen_int (zero:=#[.int .i64 0]) (t:=3) h (of_decide_eq_true (by kernel_rfl)) (by kernel_rfl) rfl (by kernel_rfl) (by kernel_rfl) Tryz.underlying3
 m3:=by kernel_rfl
 m4:=by kernel_rfl }
end Go.Proofs
end
section
namespace Go.Proofs.YthejmgnkenokpaaGreatDoor
open Go Go.Sy Go.bK
variable {Γ : bn}
structure ahb (w : World) : Prop where
 mx : ∃ m,w.cell? ⟨2,0,none⟩ = some (.int .i64 m)
 e1 : ∃ ev,w.cell? ⟨0,0,none⟩ = some ev /\ (ev = .nilIface \/ ∃ te pe,ev = .iface te pe)
 e2 : ∃ ev,w.cell? ⟨1,0,none⟩ = some ev /\ (ev = .nilIface \/ ∃ te pe,ev = .iface te pe)
theorem aiE (w w' : World) (h : ahb w) (hb : ∀ b,b < 3 -> w'.heap[b]? = w.heap[b]?) : ahb w':=by
 obtain ⟨⟨m,h1⟩,⟨v1,h2,h3⟩,v2,h4,h5⟩:=h
 exact ⟨⟨m,by rw [World.cell?_of_block (hb 2 (by omega))];exact h1⟩,⟨v1,by rw [World.cell?_of_block (hb 0 (by omega))];exact h2,h3⟩,v2,by rw [World.cell?_of_block (hb 1 (by omega))];exact h4,h5⟩
def aha : bn:=⟨3,ahb,aiE⟩
def ahj : au:=.fn fun args _ => match args with
 | [.a (.v (.string s)),.a (.v (.int .u8 c))] => some ([(aa.of (c = 10))],.a (vI (fk s)))
 | _ => none
theorem ahC : au.Ok Tryz.prog Γ 109 ahj:=by
 intro args rg q t hF hq M w0 ρ w vs hl qR nv hargs s8
 simp only at hF
 split at hF
 next s c =>
  obtain ⟨rfl,rfl⟩:=Prod.mk.inj (Option.some.inj hF);clear hF
  obtain ⟨h1,-⟩:=hq
  simp only [aa.ae] at h1
  match vs,hargs with
  | [y,z],⟨⟨hy,_⟩,⟨hz,_⟩,_⟩ =>
    subst hy hz h1
    refine (Tryz.strings_IndexByte s 10 w).mono fun e w' ⟨he,hw⟩ => ?_
    subst hw
    exact ⟨_,he,⟨rfl,rfl⟩,Go.RowKit.Below.refl _ _⟩
 next => cases hF
def ahf : au:=.fn fun args _ => match args with
 | [.a (.v (.string s)),.a (.v (.string p))] => some ([(aa.of (s.size <= 1000000)),(aa.of (p = ajE))],.a (.v (.string (ez s))))
 | _ => none
theorem ahr : au.Ok Tryz.prog Γ 72 ahf:=by
 intro args rg q t hF hq M w0 ρ w vs hl qR nv hargs s8
 simp only at hF
 split at hF
 next s p =>
  obtain ⟨rfl,rfl⟩:=Prod.mk.inj (Option.some.inj hF);clear hF
  obtain ⟨h1,h2,-⟩:=hq
  simp only [aa.ae] at h1 h2
  match vs,hargs with
  | [y,z],⟨⟨hy,_⟩,⟨hz,_⟩,_⟩ =>
    subst hy hz h2
    refine (Tryz.strings_TrimSuffix s ajE w (by omega)).mono fun e w' ⟨he,hw⟩ => ?_
    subst hw
    exact ⟨_,he,⟨rfl,rfl⟩,Go.RowKit.Below.refl _ _⟩
 next => cases hF
abbrev kS : List CK:=[.str]
theorem ajs (s : ByteArray) : Lib.countB s o5 <= s.size:=by
 have key : ∀ (k : Nat) (s : ByteArray),Lib.countB s o5 = k -> k <= s.size:=by
  intro k
  induction k with
  | zero => intro s _;exact Nat.zero_le _
  | succ k ih =>
    intro s hs
    rcases Lib.indexB_cases s o5 with h | ⟨i,h,h2⟩
    ·rw [Lib.countB_miss s o5 h] at hs;omega
    ·have e:=Lib.countB_hit s o5 i (by decide) h
     have e1 : o5.size = 1:=rfl
     have:=ih (s.extract (i + o5.size) s.size) (by omega)
     rw [ByteArray.size_extract] at this
     omega
 exact key _ s rfl
theorem ag9 (s : ByteArray) : (bt s).length = Lib.countB s o5 + 1:=Lib.splitB_all o5 (by decide) 0 _ s rfl
theorem aiT (s : ByteArray) : (bt s).length <= s.size + 1:=by
 rw [ag9]
 have : Lib.countB s o5 <= s.size:=ajs s
 omega
def aik : au:=.new fun args rg K => match args with
 | [.a (.v (.string s)),.a (.v (.string p))] => bk false [(aa.of (s.size <= 1000000)),(aa.of (p = o5))] (K ⟨[.arr 9 kS (bt s) true true],.a (.sl 0 [] 0 (bt s).length)⟩)
 | _ => False
theorem aiz : au.Ok Tryz.prog aha 71 aik:=by
 intro args rg K hC M w0 ρ w vs hl qR nv hargs s8
 split at hC
 next s p =>
  rw [aV] at hC
  obtain ⟨⟨h1,h2,-⟩,hK⟩:=hC
  simp only [aa.ae] at h1 h2
  match vs,hargs with
  | [y,z],⟨⟨hy,_⟩,⟨hz,_⟩,_⟩ =>
    subst hy hz h2
    have hG : ahb w:=nv
    obtain ⟨m,hm⟩:=hG.mx
    refine (Tryz.strings_Split s o5 m w (by omega) hm (by decide)).mono fun e w' ⟨he,hw⟩ => ?_
    subst hw
    have hlen:=ag9 s
    have hle:=aiT s
    have hb : Go.RowKit.Below w.heap.size w (w.alloc (.cells ((bt s).map Value.string).toArray 9)):=agB _
    refine ⟨_,_,aE ρ rg.length (fun _ => ⟨w.heap.size,0,1,Lib.countB s o5 + 1,false⟩),he,hK,hb,fun r hr π => by rw [bB hr],?_,?_⟩
    ·show rg.length + 0 < rg.length + 1 /\ (aE ρ rg.length _ (rg.length + 0) []).head 0 (bt s).length _
     rw [Nat.add_zero,aF]
     exact ⟨Nat.lt_succ_self _,fun h => (by cases h),fun _ => ⟨by show 0 + (bt s).length <= Lib.countB s o5 + 1;omega,_,by rw [hlen];rfl,fun _ => by simp [RI.at]⟩⟩
    ·refine s8.fresh hb ?_ ?_ ?_ ?_
     ·intro π o B hB
      obtain ⟨rfl,rfl,rfl⟩:=I4 (tg:=kS) rfl hB
      show Ar.aA _ (aE ρ rg.length _ rg.length) [] ⟨9,kS,bt s⟩
      rw [aF]
      refine ⟨by simp [kS],rfl,fun h => (by cases h),fun _ => by show (bt s).length <= Lib.countB s o5 + 1;omega,fun i hi => ?_⟩
      have hi : i < (bt s).length:=hi
      refine ⟨[.string ((bt s).getD i ByteArray.empty)],⟨_,rfl,rfl⟩,fun k y hy => ?_⟩
      cases k with
      | succ k => cases hy
      | zero =>
        cases hy
        show (w.alloc (.cells ((bt s).map Value.string).toArray 9)).cell? ⟨w.heap.size,0 + (i * 1 + 0),none⟩ = _
        rw [gh]
        simp [hi]
     ·intro π o B hB _
      exact ⟨Nat.le_refl _,by simp⟩
     ·intro π B hB _
      obtain ⟨rfl,_,rfl⟩:=I4 (tg:=kS) rfl hB
      refine ⟨⟨.inr hl,fun j => by simp⟩,?_,_,akc _,by show (List.map Value.string (bt s)).toArray.size = 0 + (Lib.countB s o5 + 1) * 1;simp [hlen]⟩
      show Lib.countB s o5 + 1 <= maxLen
      unfold maxLen;omega
     ·intro π aW o o' B B' h1 h2 _ _
      obtain ⟨rfl,_,_⟩:=I4 (tg:=kS) rfl h1
      obtain ⟨rfl,_,_⟩:=I4 (tg:=kS) rfl h2
      rfl
 next => exact hC.elim
def aiH : au:=.new fun args rg K => match args with
 | [.a (.v (.string s))] => bk false [(aa.of (s.size <= 1000000))] ((∀ n,Lib.atoiAll s.data.toList = .ok n -> ak .i64 n -> K ⟨[],.bF [.a (vI n),.a (.v .nilIface)]⟩) /\ (∀ n,(∀ n,Lib.atoiAll s.data.toList ≠ .ok n) -> ak .i64 n -> K ⟨[],.bF [.a (vI n),.a .err]⟩))
 | _ => False
theorem aiI : au.Ok Tryz.prog aha 73 aiH:=by
 intro args rg K hC M w0 ρ w vs hl qR nv hargs s8
 split at hC
 next s =>
  rw [aV] at hC
  obtain ⟨⟨h1,-⟩,hok,ajy⟩:=hC
  simp only [aa.ae] at h1
  match vs,hargs with
  | [y],⟨⟨hy,_⟩,_⟩ =>
    subst hy
    have hG : ahb w:=nv
    cases ha : Lib.atoiAll s.data.toList with
    | ok n =>
      have hb:=Lib.atoiAll_bounds ha
      refine (Tryz.strconv_Atoi_ok s (by omega) n ha w).mono fun e w' ⟨he,hw⟩ => ?_
      have Hg : Go.RowKit.Below w.heap.size w w':=by
       rcases hw with rfl | ⟨t,rfl⟩
       ·exact Go.RowKit.Below.refl _ _
       ·exact Lib.bytesWorld_below _ _ _
      exact ⟨_,_,ρ,he,hok n ha (by unfold ak;omega),Hg,fun _ _ _ => rfl,⟨_,rfl,⟨rfl,rfl⟩,⟨rfl,rfl⟩,trivial⟩,by simpa using s8.later Hg.size Hg.block⟩
    | range =>
      obtain ⟨ev,h2,h3⟩:=hG.e2
      have hb:=Lib.atoiSat_bounds s.data.toList
      refine (Tryz.strconv_Atoi_range s (by omega) ha ev w h2 h3).mono fun e w' ⟨N,he,_,_,Hg⟩ => ?_
      exact ⟨_,_,ρ,he,ajy _ (fun n hn => by rw [ha] at hn;cases hn) (by unfold ak;omega),Hg,fun _ _ _ => rfl,⟨_,rfl,⟨rfl,rfl⟩,⟨_,_,rfl⟩,trivial⟩,by simpa using s8.later Hg.size Hg.block⟩
    | _ =>
      obtain ⟨ev,h2,h3⟩:=hG.e1
      refine (Tryz.strconv_Atoi_syntax s (by omega) ha ev w h2 h3).mono fun e w' ⟨N,he,_,_,Hg⟩ => ?_
      exact ⟨_,_,ρ,he,ajy 0 (fun n hn => by rw [ha] at hn;cases hn) (by unfold ak;omega),Hg,fun _ _ _ => rfl,⟨_,rfl,⟨rfl,rfl⟩,⟨_,_,rfl⟩,trivial⟩,by simpa using s8.later Hg.size Hg.block⟩
 next => exact hC.elim
end Go.Proofs.YthejmgnkenokpaaGreatDoor
end
section
namespace Go.Proofs.YthejmgnkenokpaaGreatDoor
open Go Go.Sy Go.bK Go.ChangeShapes Go.WideShapes Go.RowKit
theorem ajR : Tryz.prog.globalNamed "strconv.ErrSyntax" = some 0 := by kernel_rfl
theorem ajS : Tryz.prog.globalNamed "strconv.ErrRange" = some 1 := by kernel_rfl
theorem aji : (Tryz.prog.globals[0]?).map (·.type) = some 119:=by kernel_rfl
theorem ajj : (Tryz.prog.globals[1]?).map (·.type) = some 119:=by kernel_rfl
theorem ah0 : Tryz.prog.cellsOf 9 = 1:=by kernel_rfl
theorem ahZ : Tryz.prog.cellsOf 229 = 1:=by kernel_rfl
theorem ai9 : "*" ++ "errors.errorString" = "*errors.errorString" := by decide
theorem aiQ (u : TypeId) (h : Tryz.prog.typeName? 3 u = some "*errors.errorString") : u = 227 :=
 typeName_ptr_named (nm := "errors.errorString") (by rw [ai9]; kernel_rfl) (by kernel_rfl) (by decide) u (by rw [ai9]; exact h)
theorem aiJ : Tryz.prog.underlying 119 = some (.interface (Tryz.prog.methodsAt 119)):=by kernel_rfl
def aiD : List (String × DataW Unit) := [("math/bits.deBruijn32tab", Rows.laid_math_bits_deBruijn32tab), ("math/bits.deBruijn64tab", Rows.laid_math_bits_deBruijn64tab), ("internal/strconv.uint64pow10", Rows.laid_internal_strconv_uint64pow10), ("unicode/utf8.acceptRanges", Rows.laid_unicode_utf8_acceptRanges),
 ("strconv.ErrRange", Rows.laid_strconv_ErrRange), ("strconv.ErrSyntax", Rows.laid_strconv_ErrSyntax), ("unicode/utf8.first", Rows.laid_unicode_utf8_first)]
theorem ahk {W : World} {n : String} {g : Nat} {x : Value} (hg : Tryz.prog.globalNamed n = some g) (h : W.var? Tryz.prog n = some #[x]) : W.cell? ⟨g,0,none⟩ = some x:=by
 simpa using World.var?_cell hg h 0
theorem ah7 {W : World} (h : laidMetH Tryz.prog aiD W) (hs : W.ShapedOpen Tryz.prog) : ahb W:=by
 have h1 : laidMet Tryz.prog aiD W:=h
 obtain ⟨a,s,hr,_⟩:=laid_sentinel h1.tail.tail.tail.tail ajS ajj aiJ aiQ Tryz.underlying227 Tryz.underlying229 rfl rfl Tryz.underlying9 ahZ ah0
 obtain ⟨a',s',hy,_⟩:=laid_sentinel h1.tail.tail.tail.tail.tail ajR aji aiJ aiQ Tryz.underlying227 Tryz.underlying229 rfl rfl Tryz.underlying9 ahZ ah0
 exact ⟨Tryz.aiZ.s1_3 W hs,⟨_,ahk ajR hy,.inr ⟨_,_,rfl⟩⟩,⟨_,ahk ajS hr,.inr ⟨_,_,rfl⟩⟩⟩
/-! ### A world that holds the tables and the errors -/
noncomputable def low : Nat:=(World.holding Tryz.prog default ⟨#[],#[],[]⟩).heap.size
def ajB : Nat -> Option (List Int)
 | 4 => some (Go.Pinned.utf8FirstZ.map Int.ofNat)
 | 5 => some [128,191,160,191,128,159,144,191,128,143,0,0,0,0,0,0,0,0,0,0,0,0,0,0,0,0,0,0,0,0,0,0]
 | n => Pb n
def ag8 (g : Nat) (h : Array Obj) : Array Obj:=h.modify g fun o => match o,ajB g with
 | .cells _ t frozen,some zs => .cells (zs.map fun z => Value.int (NQ g) z).toArray t frozen
 | o,_ => o
def ajv (b : Nat) (h : Array Obj) : Array Obj:=(h.modify 0 fun
  | .cells _ t frozen => .cells #[.iface 227 (.pointer (some ⟨b,0,none⟩))] t frozen
  | o => o).modify 1 fun
  | .cells _ t frozen => .cells #[.iface 227 (.pointer (some ⟨b + 1,0,none⟩))] t frozen
  | o => o
noncomputable def hJ (os : Os) : World :=
 let w0:=World.holding Tryz.prog os ⟨#[.cells #[.string ⟨#[105,110,118,97,108,105,100,32,115,121,110,116,97,120]⟩] 229,.cells #[.string ⟨#[118,97,108,117,101,32,111,117,116,32,111,102,32,114,97,110,103,101]⟩] 229],#[],[]⟩
 { w0 with heap:=ajv low (ag8 7 (ag8 6 (ag8 5 (ag8 4 (ag8 3 w0.heap))))) }
theorem aiu (os : Os) (args : Array Value) : ((hJ os).forCall (fun _ _ => 0) ⟨#[],args,[]⟩).variablesB Tryz.checked.prog = true:=by kernel_rfl
theorem ait (os : Os) (args : Array Value) : ((((hJ os).forCall (fun _ _ => 0) ⟨#[],args,[]⟩).heap.toList.drop Tryz.checked.prog.globals.size).take ((begin Tryz.checked.prog (fun _ _ => 0) default).world.heap.size - Tryz.checked.prog.globals.size) =
   (begin Tryz.checked.prog (fun _ _ => 0) default).world.heap.toList.drop Tryz.checked.prog.globals.size):=by kernel_rfl
theorem ais (os : Os) (args : Array Value) : laidMet Tryz.prog aiD ((hJ os).forCall (fun _ _ => 0) ⟨#[],args,[]⟩).memory :=
 laidMet_of_run' 8 (by kernel_rfl) (by kernel_rfl)
/-! ### Texts -/
theorem aii {H : Type} {enc : TypeId × Value -> H} {w : World} {base : Nat} {spare : Nat -> Bool} {held : Bool} {r : Reach} {b0 : Nat} {v : Value} {d : DataW H} {p : List MemPlace} (hv : Value.okWide Tryz.prog w r b0 9 v) (_h : DataW.Trod enc Tryz.prog w base spare held 9 v d p) : ∃ s,v = .string s :=
 okWide_string Tryz.underlying9 hv
theorem aiO {N : Nat} {ρ : Keys} (s : ByteArray) : Tm.ok N ρ (.a (.v (.string s))) (.string s):=⟨rfl,rfl⟩
theorem ahw {f : FuncId} {F : List Tm -> List az -> Option (List aa × Tm)} (hc : au.Ok Tryz.prog aha f (.fn F)) (As : List sN) {args : List Tm} {q : List aa} (hF : F args (As.map sN.akq) = some (q,bl true)) (hq : bW q) {W : World} {vs : List Value}
  (hL : ahb W) (hA : ∀ A ∈ As,A.ok W) (hargs : be (Tm.ok As.length (ky (As.map (·.I)))) args vs) : Calls Tryz.prog f vs.toArray W fun e W' => e = .returned (.bool true) /\ Below W.heap.size W W':=by
 have hl : (As.map sN.akq).length = As.length:=List.length_map _
 have h3 : 2 < W.heap.size:=by obtain ⟨m,hm⟩:=hL.mx;exact Lib.lt_of_cell hm
 exact (hc args _ q _ hF hq (fun _ => False) W (ky (As.map (·.I))) W vs (Nat.le_refl _) (fun b hb => by have : b < 3:=hb;omega) hL (by rw [hl];exact hargs) (by rw [hl];exact LJ As hA)).mono fun e w' ⟨v,he,hv,hb⟩ => by
  obtain ⟨rfl,_⟩:=hv
  exact ⟨he,hb⟩
def aiP (t : TypeId) : Bool:=BC t || t == 9
theorem aia (t : TypeId) (h : aiP t = true) : Tryz.prog.wantsStandIn t = false:=by
 rcases Bool.or_eq_true _ _ ▸ h with h | h
 ·exact CS t h
 ·rw [eq_of_beq h];exact (show Tryz.prog.wantsStandIn 9 = false by kernel_rfl)
theorem aio {name : String} {g : FuncId} {gn : Func} {ps : Array TypeId} (h1 : Tryz.prog.funcNamed name = some g) (h2 : Tryz.prog.funcs[g]? = some gn) (h3 : gn.params = ps) (h4 : ps.toList.all aiP = true) (f : FuncId) (fn : Func) (hf : Tryz.pinned.checked.prog.funcNamed name = some f) (hfn : Tryz.pinned.checked.prog.funcs[f]? = some fn) :
  true = Tryz.pinned.checked.prog.looks [] /\ ∀ (j : Nat) t,fn.params[j]? = some t -> Tryz.pinned.checked.prog.wantsStandIn t = false:=by
 rw [Fq] at hf hfn ⊢
 obtain rfl : g = f:=Option.some.inj (h1.symm.trans hf)
 obtain rfl : gn = fn:=Option.some.inj (h2.symm.trans hfn)
 refine ⟨NX,fun j t ht => ?_⟩
 rw [h3] at ht
 exact aia t (List.all_eq_true.1 h4 t (Array.mem_toList_iff.2 (Array.mem_of_getElem? ht)))
end Go.Proofs.YthejmgnkenokpaaGreatDoor
end
