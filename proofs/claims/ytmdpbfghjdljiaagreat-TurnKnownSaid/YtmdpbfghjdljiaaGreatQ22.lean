/- Part 22 of what the claim is proved by: lemmas on the model and walks through functions of the program; no conditions. -/
import Derived.Test.YtmdpbfghjdljiaaGreatQ7
import Derived.Test.YtmdpbfghjdljiaaGreatProg
import Derived.OwnWalk
import Derived.KernelRfl
import Derived.Test.YtmdpbfghjdljiaaGreatQ17
import Derived.Test.YtmdpbfghjdljiaaGreatQ13
import Derived.Test.YtmdpbfghjdljiaaGreatQ18
import Derived.Test.YtmdpbfghjdljiaaGreatQ16
namespace Go.Proofs
open Go Go.V
theorem tyRow {P:Program} {t size bytes:Nat} {d:TypeDesc} {sh:Sh} {z:Value} (hu:P.underlying t=some d) (hs:ShOK d sh) (h:(P.info? t).map (fun i=>(i.zero,i.size,i.bytes))=some (some z,size,bytes)) (hz:z.cells.size=size):TyOK P t ⟨sh,size,bytes,z⟩:=⟨⟨d,hu,hs⟩,by
 obtain ⟨i0,hi,hz0,hs0,hb0⟩:=info_parts h
 exact ⟨i0,hi,hs0,hb0,hz0,hz⟩⟩
theorem Tryz.ty1:TyOK Tryz.prog 1 ⟨.plain,1,8,.nilFunc⟩:=tyRow Tryz.underlying1 ⟨nofun,nofun⟩ (by kernel_rfl) rfl
theorem Tryz.ty3:TyOK Tryz.prog 3 ⟨.int .i64,1,8,.int .i64 0⟩:=tyRow Tryz.underlying3 rfl (by kernel_rfl) rfl
theorem Tryz.ty4:TyOK Tryz.prog 4 ⟨.plain,1,1,.bool false⟩:=tyRow Tryz.underlying4 ⟨nofun,nofun⟩ (by kernel_rfl) rfl
theorem Tryz.ty5:TyOK Tryz.prog 5 ⟨.int .u8,1,1,.int .u8 0⟩:=tyRow Tryz.underlying5 rfl (by kernel_rfl) rfl
theorem Tryz.ty9:TyOK Tryz.prog 9 ⟨.plain,1,16,.string ByteArray.empty⟩:=tyRow Tryz.underlying9 ⟨nofun,nofun⟩ (by kernel_rfl) rfl
theorem Tryz.ty20:TyOK Tryz.prog 20 ⟨.plain,1,16,.nilIface⟩:=tyRow Tryz.underlying20 ⟨nofun,nofun⟩ (by kernel_rfl) rfl
theorem Tryz.ty22:TyOK Tryz.prog 22 ⟨.slice 59,1,24,.slice none 0 0⟩:=tyRow Tryz.underlying22 rfl (by kernel_rfl) rfl
theorem Tryz.ty23:TyOK Tryz.prog 23 ⟨.slice 58,1,24,.slice none 0 0⟩:=tyRow Tryz.underlying23 rfl (by kernel_rfl) rfl
theorem Tryz.ty25:TyOK Tryz.prog 25 ⟨.strct [(0,4),(1,22),(2,23)],3,56,.agg #[.bool false,.slice none 0 0,.slice none 0 0]⟩:=tyRow Tryz.underlying25 ⟨_,rfl,rfl⟩ (by kernel_rfl) rfl
theorem Tryz.ty26:TyOK Tryz.prog 26 ⟨.slice 41,1,24,.slice none 0 0⟩:=tyRow Tryz.underlying26 rfl (by kernel_rfl) rfl
theorem Tryz.ty28:TyOK Tryz.prog 28 ⟨.strct [(0,25),(3,26),(4,3),(5,3),(6,3),(7,3)],8,112,.agg #[.bool false,.slice none 0 0,.slice none 0 0,.slice none 0 0,.int .i64 0,.int .i64 0,.int .i64 0,.int .i64 0]⟩:=tyRow Tryz.underlying28 ⟨_,rfl,rfl⟩ (by kernel_rfl) rfl
theorem Tryz.ty29:TyOK Tryz.prog 29 ⟨.int .i64,1,8,.int .i64 0⟩:=tyRow Tryz.underlying29 rfl (by kernel_rfl) rfl
theorem Tryz.ty31:TyOK Tryz.prog 31 ⟨.strct [(0,29),(1,3)],2,16,.agg #[.int .i64 0,.int .i64 0]⟩:=tyRow Tryz.underlying31 ⟨_,rfl,rfl⟩ (by kernel_rfl) rfl
theorem Tryz.ty32:TyOK Tryz.prog 32 ⟨.int .i64,1,8,.int .i64 0⟩:=tyRow Tryz.underlying32 rfl (by kernel_rfl) rfl
theorem Tryz.ty35:TyOK Tryz.prog 35 ⟨.int .i64,1,8,.int .i64 0⟩:=tyRow Tryz.underlying35 rfl (by kernel_rfl) rfl
theorem Tryz.ty36:TyOK Tryz.prog 36 ⟨.slice 3,1,24,.slice none 0 0⟩:=tyRow Tryz.underlying36 rfl (by kernel_rfl) rfl
theorem Tryz.ty37:TyOK Tryz.prog 37 ⟨.slice 115,1,24,.slice none 0 0⟩:=tyRow Tryz.underlying37 rfl (by kernel_rfl) rfl
theorem Tryz.ty39:TyOK Tryz.prog 39 ⟨.strct [(0,36),(1,36),(2,37)],3,72,.agg #[.slice none 0 0,.slice none 0 0,.slice none 0 0]⟩:=tyRow Tryz.underlying39 ⟨_,rfl,rfl⟩ (by kernel_rfl) rfl
theorem Tryz.ty41:TyOK Tryz.prog 41 ⟨.strct [(0,35),(1,3),(2,3),(3,3),(4,31),(6,39)],9,120,.agg #[.int .i64 0,.int .i64 0,.int .i64 0,.int .i64 0,.int .i64 0,.int .i64 0,.slice none 0 0,.slice none 0 0,.slice none 0 0]⟩:=tyRow Tryz.underlying41 ⟨_,rfl,rfl⟩ (by kernel_rfl) rfl
theorem Tryz.ty45:TyOK Tryz.prog 45 ⟨.slice 31,1,24,.slice none 0 0⟩:=tyRow Tryz.underlying45 rfl (by kernel_rfl) rfl
theorem Tryz.ty46:TyOK Tryz.prog 46 ⟨.slice 32,1,24,.slice none 0 0⟩:=tyRow Tryz.underlying46 rfl (by kernel_rfl) rfl
theorem Tryz.ty51:TyOK Tryz.prog 51 ⟨.slice 78,1,24,.slice none 0 0⟩:=tyRow Tryz.underlying51 rfl (by kernel_rfl) rfl
theorem Tryz.ty56:TyOK Tryz.prog 56 ⟨.plain,1,8,.nilFunc⟩:=tyRow Tryz.underlying56 ⟨nofun,nofun⟩ (by kernel_rfl) rfl
theorem Tryz.ty58:TyOK Tryz.prog 58 ⟨.strct [(0,3),(1,3),(2,45)],3,40,.agg #[.int .i64 0,.int .i64 0,.slice none 0 0]⟩:=tyRow Tryz.underlying58 ⟨_,rfl,rfl⟩ (by kernel_rfl) rfl
theorem Tryz.ty59:TyOK Tryz.prog 59 ⟨.slice 39,1,24,.slice none 0 0⟩:=tyRow Tryz.underlying59 rfl (by kernel_rfl) rfl
theorem Tryz.ty78:TyOK Tryz.prog 78 ⟨.strct [(0,3),(1,3),(2,31)],4,32,.agg #[.int .i64 0,.int .i64 0,.int .i64 0,.int .i64 0]⟩:=tyRow Tryz.underlying78 ⟨_,rfl,rfl⟩ (by kernel_rfl) rfl
theorem Tryz.ty85:TyOK Tryz.prog 85 ⟨.plain,1,8,.nilFunc⟩:=tyRow Tryz.underlying85 ⟨nofun,nofun⟩ (by kernel_rfl) rfl
theorem Tryz.ty86:TyOK Tryz.prog 86 ⟨.slice 201,1,24,.slice none 0 0⟩:=tyRow Tryz.underlying86 rfl (by kernel_rfl) rfl
theorem Tryz.ty87:TyOK Tryz.prog 87 ⟨.slice 251,1,24,.slice none 0 0⟩:=tyRow Tryz.underlying87 rfl (by kernel_rfl) rfl
theorem Tryz.ty89:TyOK Tryz.prog 89 ⟨.strct [(0,59),(1,3),(2,36),(3,86),(4,87),(5,3)],6,112,.agg #[.slice none 0 0,.int .i64 0,.slice none 0 0,.slice none 0 0,.slice none 0 0,.int .i64 0]⟩:=tyRow Tryz.underlying89 ⟨_,rfl,rfl⟩ (by kernel_rfl) rfl
theorem Tryz.ty96:TyOK Tryz.prog 96 ⟨.slice 98,1,24,.slice none 0 0⟩:=tyRow Tryz.underlying96 rfl (by kernel_rfl) rfl
theorem Tryz.ty98:TyOK Tryz.prog 98 ⟨.strct [(0,3),(1,45)],2,32,.agg #[.int .i64 0,.slice none 0 0]⟩:=tyRow Tryz.underlying98 ⟨_,rfl,rfl⟩ (by kernel_rfl) rfl
theorem Tryz.ty105:TyOK Tryz.prog 105 ⟨.ptr 140,1,8,.pointer none⟩:=tyRow Tryz.underlying105 rfl (by kernel_rfl) rfl
theorem Tryz.ty115:TyOK Tryz.prog 115 ⟨.strct [(0,3),(1,3)],2,16,.agg #[.int .i64 0,.int .i64 0]⟩:=tyRow Tryz.underlying115 ⟨_,rfl,rfl⟩ (by kernel_rfl) rfl
theorem Tryz.ty116:TyOK Tryz.prog 116 ⟨.slice 119,1,24,.slice none 0 0⟩:=tyRow Tryz.underlying116 rfl (by kernel_rfl) rfl
theorem Tryz.ty119:TyOK Tryz.prog 119 ⟨.ptr 169,1,8,.pointer none⟩:=tyRow Tryz.underlying119 rfl (by kernel_rfl) rfl
theorem Tryz.ty120:TyOK Tryz.prog 120 ⟨.plain,1,8,.nilFunc⟩:=tyRow Tryz.underlying120 ⟨nofun,nofun⟩ (by kernel_rfl) rfl
theorem Tryz.ty123:TyOK Tryz.prog 123 ⟨.plain,1,8,.nilFunc⟩:=tyRow Tryz.underlying123 ⟨nofun,nofun⟩ (by kernel_rfl) rfl
theorem Tryz.ty125:TyOK Tryz.prog 125 ⟨.plain,1,8,.nilFunc⟩:=tyRow Tryz.underlying125 ⟨nofun,nofun⟩ (by kernel_rfl) rfl
theorem Tryz.ty130:TyOK Tryz.prog 130 ⟨.slice 36,1,24,.slice none 0 0⟩:=tyRow Tryz.underlying130 rfl (by kernel_rfl) rfl
theorem Tryz.ty136:TyOK Tryz.prog 136 ⟨.plain,1,8,.nilFunc⟩:=tyRow Tryz.underlying136 ⟨nofun,nofun⟩ (by kernel_rfl) rfl
theorem Tryz.ty140:TyOK Tryz.prog 140 ⟨.strct [(0,4),(1,116),(2,23)],3,56,.agg #[.bool false,.slice none 0 0,.slice none 0 0]⟩:=tyRow Tryz.underlying140 ⟨_,rfl,rfl⟩ (by kernel_rfl) rfl
theorem Tryz.ty151:TyOK Tryz.prog 151 ⟨.ptr 211,1,8,.pointer none⟩:=tyRow Tryz.underlying151 rfl (by kernel_rfl) rfl
theorem Tryz.ty159:TyOK Tryz.prog 159 ⟨.plain,1,8,.nilFunc⟩:=tyRow Tryz.underlying159 ⟨nofun,nofun⟩ (by kernel_rfl) rfl
theorem Tryz.ty160:TyOK Tryz.prog 160 ⟨.plain,1,8,.nilFunc⟩:=tyRow Tryz.underlying160 ⟨nofun,nofun⟩ (by kernel_rfl) rfl
theorem Tryz.ty161:TyOK Tryz.prog 161 ⟨.plain,1,8,.nilFunc⟩:=tyRow Tryz.underlying161 ⟨nofun,nofun⟩ (by kernel_rfl) rfl
theorem Tryz.ty163:TyOK Tryz.prog 163 ⟨.strct [(0,160),(1,161)],2,16,.agg #[.nilFunc,.nilFunc]⟩:=tyRow Tryz.underlying163 ⟨_,rfl,rfl⟩ (by kernel_rfl) rfl
theorem Tryz.ty165:TyOK Tryz.prog 165 ⟨.map 35 163,1,8,.map none⟩:=tyRow Tryz.underlying165 rfl (by kernel_rfl) rfl
theorem Tryz.ty167:TyOK Tryz.prog 167 ⟨.slice 39,1,24,.slice none 0 0⟩:=tyRow Tryz.underlying167 rfl (by kernel_rfl) rfl
theorem Tryz.ty169:TyOK Tryz.prog 169 ⟨.strct [(0,167),(1,130),(2,130)],3,72,.agg #[.slice none 0 0,.slice none 0 0,.slice none 0 0]⟩:=tyRow Tryz.underlying169 ⟨_,rfl,rfl⟩ (by kernel_rfl) rfl
theorem Tryz.ty173:TyOK Tryz.prog 173 ⟨.plain,1,8,.nilFunc⟩:=tyRow Tryz.underlying173 ⟨nofun,nofun⟩ (by kernel_rfl) rfl
theorem Tryz.ty174:TyOK Tryz.prog 174 ⟨.array 19 4,19,19,.agg #[.bool false,.bool false,.bool false,.bool false,.bool false,.bool false,.bool false,.bool false,.bool false,.bool false,.bool false,.bool false,.bool false,.bool false,.bool false,.bool false,.bool false,.bool false,.bool false]⟩:=tyRow Tryz.underlying174 rfl (by kernel_rfl) rfl
theorem Tryz.ty185:TyOK Tryz.prog 185 ⟨.plain,1,8,.nilFunc⟩:=tyRow Tryz.underlying185 ⟨nofun,nofun⟩ (by kernel_rfl) rfl
theorem Tryz.ty193:TyOK Tryz.prog 193 ⟨.strct [(0,130),(1,36)],2,48,.agg #[.slice none 0 0,.slice none 0 0]⟩:=tyRow Tryz.underlying193 ⟨_,rfl,rfl⟩ (by kernel_rfl) rfl
theorem Tryz.ty195:TyOK Tryz.prog 195 ⟨.int .i64,1,8,.int .i64 0⟩:=tyRow Tryz.underlying195 rfl (by kernel_rfl) rfl
theorem Tryz.ty196:TyOK Tryz.prog 196 ⟨.int .i64,1,8,.int .i64 0⟩:=tyRow Tryz.underlying196 rfl (by kernel_rfl) rfl
theorem Tryz.ty197:TyOK Tryz.prog 197 ⟨.slice 199,1,24,.slice none 0 0⟩:=tyRow Tryz.underlying197 rfl (by kernel_rfl) rfl
theorem Tryz.ty199:TyOK Tryz.prog 199 ⟨.strct [(0,196),(1,3),(2,36),(3,3),(4,3),(5,197)],6,80,.agg #[.int .i64 0,.int .i64 0,.slice none 0 0,.int .i64 0,.int .i64 0,.slice none 0 0]⟩:=tyRow Tryz.underlying199 ⟨_,rfl,rfl⟩ (by kernel_rfl) rfl
theorem Tryz.ty201:TyOK Tryz.prog 201 ⟨.strct [(0,195),(1,3),(2,199),(8,3)],9,104,.agg #[.int .i64 0,.int .i64 0,.int .i64 0,.int .i64 0,.slice none 0 0,.int .i64 0,.int .i64 0,.slice none 0 0,.int .i64 0]⟩:=tyRow Tryz.underlying201 ⟨_,rfl,rfl⟩ (by kernel_rfl) rfl
theorem Tryz.ty208:TyOK Tryz.prog 208 ⟨.map 3 36,1,8,.map none⟩:=tyRow Tryz.underlying208 rfl (by kernel_rfl) rfl
theorem Tryz.ty209:TyOK Tryz.prog 209 ⟨.map 3 98,1,8,.map none⟩:=tyRow Tryz.underlying209 rfl (by kernel_rfl) rfl
theorem Tryz.ty211:TyOK Tryz.prog 211 ⟨.strct [(0,89),(6,208),(7,209)],8,128,.agg #[.slice none 0 0,.int .i64 0,.slice none 0 0,.slice none 0 0,.slice none 0 0,.int .i64 0,.map none,.map none]⟩:=tyRow Tryz.underlying211 ⟨_,rfl,rfl⟩ (by kernel_rfl) rfl
theorem Tryz.ty215:TyOK Tryz.prog 215 ⟨.plain,1,8,.nilFunc⟩:=tyRow Tryz.underlying215 ⟨nofun,nofun⟩ (by kernel_rfl) rfl
theorem Tryz.ty224:TyOK Tryz.prog 224 ⟨.ptr 229,1,8,.pointer none⟩:=tyRow Tryz.underlying224 rfl (by kernel_rfl) rfl
theorem Tryz.ty227:TyOK Tryz.prog 227 ⟨.slice 281,1,24,.slice none 0 0⟩:=tyRow Tryz.underlying227 rfl (by kernel_rfl) rfl
theorem Tryz.ty229:TyOK Tryz.prog 229 ⟨.strct [(0,130),(1,227),(2,208)],3,56,.agg #[.slice none 0 0,.slice none 0 0,.map none]⟩:=tyRow Tryz.underlying229 ⟨_,rfl,rfl⟩ (by kernel_rfl) rfl
theorem Tryz.ty232:TyOK Tryz.prog 232 ⟨.plain,1,8,.nilFunc⟩:=tyRow Tryz.underlying232 ⟨nofun,nofun⟩ (by kernel_rfl) rfl
theorem Tryz.ty237:TyOK Tryz.prog 237 ⟨.int .u64,1,8,.int .u64 0⟩:=tyRow Tryz.underlying237 rfl (by kernel_rfl) rfl
theorem Tryz.ty239:TyOK Tryz.prog 239 ⟨.plain,1,8,.nilFunc⟩:=tyRow Tryz.underlying239 ⟨nofun,nofun⟩ (by kernel_rfl) rfl
theorem Tryz.ty248:TyOK Tryz.prog 248 ⟨.strct [(0,3),(1,3)],2,16,.agg #[.int .i64 0,.int .i64 0]⟩:=tyRow Tryz.underlying248 ⟨_,rfl,rfl⟩ (by kernel_rfl) rfl
theorem Tryz.ty249:TyOK Tryz.prog 249 ⟨.int .i64,1,8,.int .i64 0⟩:=tyRow Tryz.underlying249 rfl (by kernel_rfl) rfl
theorem Tryz.ty251:TyOK Tryz.prog 251 ⟨.strct [(0,249),(1,3),(2,36)],3,40,.agg #[.int .i64 0,.int .i64 0,.slice none 0 0]⟩:=tyRow Tryz.underlying251 ⟨_,rfl,rfl⟩ (by kernel_rfl) rfl
theorem Tryz.ty254:TyOK Tryz.prog 254 ⟨.plain,1,16,.nilIface⟩:=tyRow Tryz.underlying254 ⟨nofun,nofun⟩ (by kernel_rfl) rfl
theorem Tryz.ty256:TyOK Tryz.prog 256 ⟨.int .i64,1,8,.int .i64 0⟩:=tyRow Tryz.underlying256 rfl (by kernel_rfl) rfl
theorem Tryz.ty258:TyOK Tryz.prog 258 ⟨.strct [],0,0,.agg #[]⟩:=tyRow Tryz.underlying258 ⟨_,rfl,rfl⟩ (by kernel_rfl) rfl
theorem Tryz.ty264:TyOK Tryz.prog 264 ⟨.plain,1,8,.nilFunc⟩:=tyRow Tryz.underlying264 ⟨nofun,nofun⟩ (by kernel_rfl) rfl
theorem Tryz.ty265:TyOK Tryz.prog 265 ⟨.map 3 4,1,8,.map none⟩:=tyRow Tryz.underlying265 rfl (by kernel_rfl) rfl
theorem Tryz.ty266:TyOK Tryz.prog 266 ⟨.map 3 3,1,8,.map none⟩:=tyRow Tryz.underlying266 rfl (by kernel_rfl) rfl
theorem Tryz.ty272:TyOK Tryz.prog 272 ⟨.plain,1,8,.nilFunc⟩:=tyRow Tryz.underlying272 ⟨nofun,nofun⟩ (by kernel_rfl) rfl
theorem Tryz.ty279:TyOK Tryz.prog 279 ⟨.int .u64,1,8,.int .u64 0⟩:=tyRow Tryz.underlying279 rfl (by kernel_rfl) rfl
theorem Tryz.ty281:TyOK Tryz.prog 281 ⟨.array 1 279,1,8,.agg #[.int .u64 0]⟩:=tyRow Tryz.underlying281 rfl (by kernel_rfl) rfl
theorem Tryz.ty294:TyOK Tryz.prog 294 ⟨.int .u32,1,4,.int .u32 0⟩:=tyRow Tryz.underlying294 rfl (by kernel_rfl) rfl
theorem Tryz.ty296:TyOK Tryz.prog 296 ⟨.strct [],0,0,.agg #[]⟩:=tyRow Tryz.underlying296 ⟨_,rfl,rfl⟩ (by kernel_rfl) rfl
theorem Tryz.ty300:TyOK Tryz.prog 300 ⟨.plain,1,8,.nilFunc⟩:=tyRow Tryz.underlying300 ⟨nofun,nofun⟩ (by kernel_rfl) rfl
theorem Tryz.ty301:TyOK Tryz.prog 301 ⟨.ptr 331,1,8,.pointer none⟩:=tyRow Tryz.underlying301 rfl (by kernel_rfl) rfl
theorem Tryz.ty314:TyOK Tryz.prog 314 ⟨.ptr 3,1,8,.pointer none⟩:=tyRow Tryz.underlying314 rfl (by kernel_rfl) rfl
theorem Tryz.ty322:TyOK Tryz.prog 322 ⟨.slice 4,1,24,.slice none 0 0⟩:=tyRow Tryz.underlying322 rfl (by kernel_rfl) rfl
theorem Tryz.ty328:TyOK Tryz.prog 328 ⟨.int .u64,1,8,.int .u64 0⟩:=tyRow Tryz.underlying328 rfl (by kernel_rfl) rfl
theorem Tryz.ty329:TyOK Tryz.prog 329 ⟨.array 63 328,63,504,.agg #[.int .u64 0,.int .u64 0,.int .u64 0,.int .u64 0,.int .u64 0,.int .u64 0,.int .u64 0,.int .u64 0,.int .u64 0,.int .u64 0,.int .u64 0,.int .u64 0,.int .u64 0,.int .u64 0,.int .u64 0,.int .u64 0,.int .u64 0,.int .u64 0,.int .u64 0,.int .u64 0,.int .u64 0,.int .u64 0,.int .u64 0,.int .u64 0,.int .u64 0,.int .u64 0,.int .u64 0,.int .u64 0,.int .u64 0,.int .u64 0,.int .u64 0,.int .u64 0,.int .u64 0,.int .u64 0,.int .u64 0,.int .u64 0,.int .u64 0,.int .u64 0,.int .u64 0,.int .u64 0,.int .u64 0,.int .u64 0,.int .u64 0,.int .u64 0,.int .u64 0,.int .u64 0,.int .u64 0,.int .u64 0,.int .u64 0,.int .u64 0,.int .u64 0,.int .u64 0,.int .u64 0,.int .u64 0,.int .u64 0,.int .u64 0,.int .u64 0,.int .u64 0,.int .u64 0,.int .u64 0,.int .u64 0,.int .u64 0,.int .u64 0]⟩:=tyRow Tryz.underlying329 rfl (by kernel_rfl) rfl
theorem Tryz.ty331:TyOK Tryz.prog 331 ⟨.strct [(0,193),(2,329)],65,552,.agg #[.slice none 0 0,.slice none 0 0,.int .u64 0,.int .u64 0,.int .u64 0,.int .u64 0,.int .u64 0,.int .u64 0,.int .u64 0,.int .u64 0,.int .u64 0,.int .u64 0,.int .u64 0,.int .u64 0,.int .u64 0,.int .u64 0,.int .u64 0,.int .u64 0,.int .u64 0,.int .u64 0,.int .u64 0,.int .u64 0,.int .u64 0,.int .u64 0,.int .u64 0,.int .u64 0,.int .u64 0,.int .u64 0,.int .u64 0,.int .u64 0,.int .u64 0,.int .u64 0,.int .u64 0,.int .u64 0,.int .u64 0,.int .u64 0,.int .u64 0,.int .u64 0,.int .u64 0,.int .u64 0,.int .u64 0,.int .u64 0,.int .u64 0,.int .u64 0,.int .u64 0,.int .u64 0,.int .u64 0,.int .u64 0,.int .u64 0,.int .u64 0,.int .u64 0,.int .u64 0,.int .u64 0,.int .u64 0,.int .u64 0,.int .u64 0,.int .u64 0,.int .u64 0,.int .u64 0,.int .u64 0,.int .u64 0,.int .u64 0,.int .u64 0,.int .u64 0,.int .u64 0]⟩:=tyRow Tryz.underlying331 ⟨_,rfl,rfl⟩ (by kernel_rfl) rfl
def Tryz.tabL:List (Option TyE):=[
 none,
 some ⟨.plain,1,8,.nilFunc⟩,
 none,
 some ⟨.int .i64,1,8,.int .i64 0⟩,
 some ⟨.plain,1,1,.bool false⟩,
 some ⟨.int .u8,1,1,.int .u8 0⟩,
 none,
 none,
 none,
 some ⟨.plain,1,16,.string ByteArray.empty⟩,
 none,
 none,
 none,
 none,
 none,
 none,
 none,
 none,
 none,
 none,
 some ⟨.plain,1,16,.nilIface⟩,
 none,
 some ⟨.slice 59,1,24,.slice none 0 0⟩,
 some ⟨.slice 58,1,24,.slice none 0 0⟩,
 none,
 some ⟨.strct [(0,4),(1,22),(2,23)],3,56,.agg #[.bool false,.slice none 0 0,.slice none 0 0]⟩,
 some ⟨.slice 41,1,24,.slice none 0 0⟩,
 none,
 some ⟨.strct [(0,25),(3,26),(4,3),(5,3),(6,3),(7,3)],8,112,.agg #[.bool false,.slice none 0 0,.slice none 0 0,.slice none 0 0,.int .i64 0,.int .i64 0,.int .i64 0,.int .i64 0]⟩,
 some ⟨.int .i64,1,8,.int .i64 0⟩,
 none,
 some ⟨.strct [(0,29),(1,3)],2,16,.agg #[.int .i64 0,.int .i64 0]⟩,
 some ⟨.int .i64,1,8,.int .i64 0⟩,
 none,
 none,
 some ⟨.int .i64,1,8,.int .i64 0⟩,
 some ⟨.slice 3,1,24,.slice none 0 0⟩,
 some ⟨.slice 115,1,24,.slice none 0 0⟩,
 none,
 some ⟨.strct [(0,36),(1,36),(2,37)],3,72,.agg #[.slice none 0 0,.slice none 0 0,.slice none 0 0]⟩,
 none,
 some ⟨.strct [(0,35),(1,3),(2,3),(3,3),(4,31),(6,39)],9,120,.agg #[.int .i64 0,.int .i64 0,.int .i64 0,.int .i64 0,.int .i64 0,.int .i64 0,.slice none 0 0,.slice none 0 0,.slice none 0 0]⟩,
 none,
 none,
 none,
 some ⟨.slice 31,1,24,.slice none 0 0⟩,
 some ⟨.slice 32,1,24,.slice none 0 0⟩,
 none,
 none,
 none,
 none,
 some ⟨.slice 78,1,24,.slice none 0 0⟩,
 none,
 none,
 none,
 none,
 some ⟨.plain,1,8,.nilFunc⟩,
 none,
 some ⟨.strct [(0,3),(1,3),(2,45)],3,40,.agg #[.int .i64 0,.int .i64 0,.slice none 0 0]⟩,
 some ⟨.slice 39,1,24,.slice none 0 0⟩,
 none,
 none,
 none,
 none,
 none,
 none,
 none,
 none,
 none,
 none,
 none,
 none,
 none,
 none,
 none,
 none,
 none,
 none,
 some ⟨.strct [(0,3),(1,3),(2,31)],4,32,.agg #[.int .i64 0,.int .i64 0,.int .i64 0,.int .i64 0]⟩,
 none,
 none,
 none,
 none,
 none,
 none,
 some ⟨.plain,1,8,.nilFunc⟩,
 some ⟨.slice 201,1,24,.slice none 0 0⟩,
 some ⟨.slice 251,1,24,.slice none 0 0⟩,
 none,
 some ⟨.strct [(0,59),(1,3),(2,36),(3,86),(4,87),(5,3)],6,112,.agg #[.slice none 0 0,.int .i64 0,.slice none 0 0,.slice none 0 0,.slice none 0 0,.int .i64 0]⟩,
 none,
 none,
 none,
 none,
 none,
 none,
 some ⟨.slice 98,1,24,.slice none 0 0⟩,
 none,
 some ⟨.strct [(0,3),(1,45)],2,32,.agg #[.int .i64 0,.slice none 0 0]⟩,
 none,
 none,
 none,
 none,
 none,
 none,
 some ⟨.ptr 140,1,8,.pointer none⟩,
 none,
 none,
 none,
 none,
 none,
 none,
 none,
 none,
 none,
 some ⟨.strct [(0,3),(1,3)],2,16,.agg #[.int .i64 0,.int .i64 0]⟩,
 some ⟨.slice 119,1,24,.slice none 0 0⟩,
 none,
 none,
 some ⟨.ptr 169,1,8,.pointer none⟩,
 some ⟨.plain,1,8,.nilFunc⟩,
 none,
 none,
 some ⟨.plain,1,8,.nilFunc⟩,
 none,
 some ⟨.plain,1,8,.nilFunc⟩,
 none,
 none,
 none,
 none,
 some ⟨.slice 36,1,24,.slice none 0 0⟩,
 none,
 none,
 none,
 none,
 none,
 some ⟨.plain,1,8,.nilFunc⟩,
 none,
 none,
 none,
 some ⟨.strct [(0,4),(1,116),(2,23)],3,56,.agg #[.bool false,.slice none 0 0,.slice none 0 0]⟩,
 none,
 none,
 none,
 none,
 none,
 none,
 none,
 none,
 none,
 none,
 some ⟨.ptr 211,1,8,.pointer none⟩,
 none,
 none,
 none,
 none,
 none,
 none,
 none,
 some ⟨.plain,1,8,.nilFunc⟩,
 some ⟨.plain,1,8,.nilFunc⟩,
 some ⟨.plain,1,8,.nilFunc⟩,
 none,
 some ⟨.strct [(0,160),(1,161)],2,16,.agg #[.nilFunc,.nilFunc]⟩,
 none,
 some ⟨.map 35 163,1,8,.map none⟩,
 none,
 some ⟨.slice 39,1,24,.slice none 0 0⟩,
 none,
 some ⟨.strct [(0,167),(1,130),(2,130)],3,72,.agg #[.slice none 0 0,.slice none 0 0,.slice none 0 0]⟩,
 none,
 none,
 none,
 some ⟨.plain,1,8,.nilFunc⟩,
 some ⟨.array 19 4,19,19,.agg #[.bool false,.bool false,.bool false,.bool false,.bool false,.bool false,.bool false,.bool false,.bool false,.bool false,.bool false,.bool false,.bool false,.bool false,.bool false,.bool false,.bool false,.bool false,.bool false]⟩,
 none,
 none,
 none,
 none,
 none,
 none,
 none,
 none,
 none,
 none,
 some ⟨.plain,1,8,.nilFunc⟩,
 none,
 none,
 none,
 none,
 none,
 none,
 none,
 some ⟨.strct [(0,130),(1,36)],2,48,.agg #[.slice none 0 0,.slice none 0 0]⟩,
 none,
 some ⟨.int .i64,1,8,.int .i64 0⟩,
 some ⟨.int .i64,1,8,.int .i64 0⟩,
 some ⟨.slice 199,1,24,.slice none 0 0⟩,
 none,
 some ⟨.strct [(0,196),(1,3),(2,36),(3,3),(4,3),(5,197)],6,80,.agg #[.int .i64 0,.int .i64 0,.slice none 0 0,.int .i64 0,.int .i64 0,.slice none 0 0]⟩,
 none,
 some ⟨.strct [(0,195),(1,3),(2,199),(8,3)],9,104,.agg #[.int .i64 0,.int .i64 0,.int .i64 0,.int .i64 0,.slice none 0 0,.int .i64 0,.int .i64 0,.slice none 0 0,.int .i64 0]⟩,
 none,
 none,
 none,
 none,
 none,
 none,
 some ⟨.map 3 36,1,8,.map none⟩,
 some ⟨.map 3 98,1,8,.map none⟩,
 none,
 some ⟨.strct [(0,89),(6,208),(7,209)],8,128,.agg #[.slice none 0 0,.int .i64 0,.slice none 0 0,.slice none 0 0,.slice none 0 0,.int .i64 0,.map none,.map none]⟩,
 none,
 none,
 none,
 some ⟨.plain,1,8,.nilFunc⟩,
 none,
 none,
 none,
 none,
 none,
 none,
 none,
 none,
 some ⟨.ptr 229,1,8,.pointer none⟩,
 none,
 none,
 some ⟨.slice 281,1,24,.slice none 0 0⟩,
 none,
 some ⟨.strct [(0,130),(1,227),(2,208)],3,56,.agg #[.slice none 0 0,.slice none 0 0,.map none]⟩,
 none,
 none,
 some ⟨.plain,1,8,.nilFunc⟩,
 none,
 none,
 none,
 none,
 some ⟨.int .u64,1,8,.int .u64 0⟩,
 none,
 some ⟨.plain,1,8,.nilFunc⟩,
 none,
 none,
 none,
 none,
 none,
 none,
 none,
 none,
 some ⟨.strct [(0,3),(1,3)],2,16,.agg #[.int .i64 0,.int .i64 0]⟩,
 some ⟨.int .i64,1,8,.int .i64 0⟩,
 none,
 some ⟨.strct [(0,249),(1,3),(2,36)],3,40,.agg #[.int .i64 0,.int .i64 0,.slice none 0 0]⟩,
 none,
 none,
 some ⟨.plain,1,16,.nilIface⟩,
 none,
 some ⟨.int .i64,1,8,.int .i64 0⟩,
 none,
 some ⟨.strct [],0,0,.agg #[]⟩,
 none,
 none,
 none,
 none,
 none,
 some ⟨.plain,1,8,.nilFunc⟩,
 some ⟨.map 3 4,1,8,.map none⟩,
 some ⟨.map 3 3,1,8,.map none⟩,
 none,
 none,
 none,
 none,
 none,
 some ⟨.plain,1,8,.nilFunc⟩,
 none,
 none,
 none,
 none,
 none,
 none,
 some ⟨.int .u64,1,8,.int .u64 0⟩,
 none,
 some ⟨.array 1 279,1,8,.agg #[.int .u64 0]⟩,
 none,
 none,
 none,
 none,
 none,
 none,
 none,
 none,
 none,
 none,
 none,
 none,
 some ⟨.int .u32,1,4,.int .u32 0⟩,
 none,
 some ⟨.strct [],0,0,.agg #[]⟩,
 none,
 none,
 none,
 some ⟨.plain,1,8,.nilFunc⟩,
 some ⟨.ptr 331,1,8,.pointer none⟩,
 none,
 none,
 none,
 none,
 none,
 none,
 none,
 none,
 none,
 none,
 none,
 none,
 some ⟨.ptr 3,1,8,.pointer none⟩,
 none,
 none,
 none,
 none,
 none,
 none,
 none,
 some ⟨.slice 4,1,24,.slice none 0 0⟩,
 none,
 none,
 none,
 none,
 none,
 some ⟨.int .u64,1,8,.int .u64 0⟩,
 some ⟨.array 63 328,63,504,.agg #[.int .u64 0,.int .u64 0,.int .u64 0,.int .u64 0,.int .u64 0,.int .u64 0,.int .u64 0,.int .u64 0,.int .u64 0,.int .u64 0,.int .u64 0,.int .u64 0,.int .u64 0,.int .u64 0,.int .u64 0,.int .u64 0,.int .u64 0,.int .u64 0,.int .u64 0,.int .u64 0,.int .u64 0,.int .u64 0,.int .u64 0,.int .u64 0,.int .u64 0,.int .u64 0,.int .u64 0,.int .u64 0,.int .u64 0,.int .u64 0,.int .u64 0,.int .u64 0,.int .u64 0,.int .u64 0,.int .u64 0,.int .u64 0,.int .u64 0,.int .u64 0,.int .u64 0,.int .u64 0,.int .u64 0,.int .u64 0,.int .u64 0,.int .u64 0,.int .u64 0,.int .u64 0,.int .u64 0,.int .u64 0,.int .u64 0,.int .u64 0,.int .u64 0,.int .u64 0,.int .u64 0,.int .u64 0,.int .u64 0,.int .u64 0,.int .u64 0,.int .u64 0,.int .u64 0,.int .u64 0,.int .u64 0,.int .u64 0,.int .u64 0]⟩,
 none,
 some ⟨.strct [(0,193),(2,329)],65,552,.agg #[.slice none 0 0,.slice none 0 0,.int .u64 0,.int .u64 0,.int .u64 0,.int .u64 0,.int .u64 0,.int .u64 0,.int .u64 0,.int .u64 0,.int .u64 0,.int .u64 0,.int .u64 0,.int .u64 0,.int .u64 0,.int .u64 0,.int .u64 0,.int .u64 0,.int .u64 0,.int .u64 0,.int .u64 0,.int .u64 0,.int .u64 0,.int .u64 0,.int .u64 0,.int .u64 0,.int .u64 0,.int .u64 0,.int .u64 0,.int .u64 0,.int .u64 0,.int .u64 0,.int .u64 0,.int .u64 0,.int .u64 0,.int .u64 0,.int .u64 0,.int .u64 0,.int .u64 0,.int .u64 0,.int .u64 0,.int .u64 0,.int .u64 0,.int .u64 0,.int .u64 0,.int .u64 0,.int .u64 0,.int .u64 0,.int .u64 0,.int .u64 0,.int .u64 0,.int .u64 0,.int .u64 0,.int .u64 0,.int .u64 0,.int .u64 0,.int .u64 0,.int .u64 0,.int .u64 0,.int .u64 0,.int .u64 0,.int .u64 0,.int .u64 0,.int .u64 0,.int .u64 0]⟩]
def Tryz.tab:Tab:=fun t=>nthT Tryz.tabL t
set_option maxRecDepth 100000 in
theorem Tryz.tabOK:TabOK Tryz.prog Tryz.tab:=allOK_tab (L:=Tryz.tabL) ⟨Tryz.ty1,Tryz.ty3,Tryz.ty4,Tryz.ty5,Tryz.ty9,Tryz.ty20,Tryz.ty22,Tryz.ty23,Tryz.ty25,Tryz.ty26,Tryz.ty28,Tryz.ty29,Tryz.ty31,Tryz.ty32,Tryz.ty35,Tryz.ty36,Tryz.ty37,Tryz.ty39,Tryz.ty41,Tryz.ty45,Tryz.ty46,Tryz.ty51,Tryz.ty56,Tryz.ty58,Tryz.ty59,Tryz.ty78,Tryz.ty85,Tryz.ty86,Tryz.ty87,Tryz.ty89,Tryz.ty96,Tryz.ty98,Tryz.ty105,Tryz.ty115,Tryz.ty116,Tryz.ty119,Tryz.ty120,Tryz.ty123,Tryz.ty125,Tryz.ty130,Tryz.ty136,Tryz.ty140,Tryz.ty151,Tryz.ty159,Tryz.ty160,Tryz.ty161,Tryz.ty163,Tryz.ty165,Tryz.ty167,Tryz.ty169,Tryz.ty173,Tryz.ty174,Tryz.ty185,Tryz.ty193,Tryz.ty195,Tryz.ty196,Tryz.ty197,Tryz.ty199,Tryz.ty201,Tryz.ty208,Tryz.ty209,Tryz.ty211,Tryz.ty215,Tryz.ty224,Tryz.ty227,Tryz.ty229,Tryz.ty232,Tryz.ty237,Tryz.ty239,Tryz.ty248,Tryz.ty249,Tryz.ty251,Tryz.ty254,Tryz.ty256,Tryz.ty258,Tryz.ty264,Tryz.ty265,Tryz.ty266,Tryz.ty272,Tryz.ty279,Tryz.ty281,Tryz.ty294,Tryz.ty296,Tryz.ty300,Tryz.ty301,Tryz.ty314,Tryz.ty322,Tryz.ty328,Tryz.ty329,Tryz.ty331,trivial⟩
abbrev Tc.int:Nat:=3
abbrev Tc.bool:Nat:=4
abbrev Tc.string:Nat:=9
abbrev Tc.api_TurnWorld:Nat:=25
abbrev Tc.api_MeanKind:Nat:=29
abbrev Tc.api_MeanVal:Nat:=31
abbrev Tc.api_Errno:Nat:=32
abbrev Tc.Lint:Nat:=36
abbrev Tc.api_BindClass:Nat:=39
abbrev Tc.api_TurnThing:Nat:=58
abbrev Tc.Lapi_BindClass:Nat:=59
abbrev Tc.api_TurnFrom:Nat:=78
abbrev Tc.api_BindInit:Nat:=115
abbrev Tc.Pturn_schema:Nat:=119
abbrev Tc.turn_world:Nat:=140
abbrev Tc.turn_deed:Nat:=163
abbrev Tc.turn_schema:Nat:=169
abbrev Tc.line_graph:Nat:=229
abbrev Tc.line_set:Nat:=281
end Go.Proofs
namespace Go.Proofs
theorem Tryz.mixed : Tryz.prog.follows .mixedOrders = true := by kernel_rfl
end Go.Proofs
namespace Go.Proofs
open Go Go.W Go.V
end Go.Proofs
namespace Go.Proofs
open Go Go.W Go.V
theorem s_slices_Index_Lint_int (l:List Int) (n:Int):V.Spec Tryz.prog 78 [ints l,V.int n] [] (V.int (fidx (fun x=>n==x) 0 l)) []:=by
 refine V.Spec.enter Tryz.tabOK Tryz.mixed Tryz.func78 rfl rfl rfl fun B hB=>?_
 refine TC.bl 0 fun hl=>?_
 repeat' (with_reducible first|refine OL.st ?_|refine TC.region ?_|refine TC.seq ?_|refine OL.nil ?_|refine TX.thenN ?_|refine TC.block ?_|fail)
 refine TC.lp (fun k:Nat=>[(0,ints l),(1,V.int n),(7,V.int l.length),(8,V.int k)]) (fun _=>[]) (fun k=>k≤l.length∧fidx (fun x=>n==x) 0 l=fidx (fun x=>n==x) k (l.drop k)) (fun k=>l.length-k) 0 [] ⟨Nat.zero_le _,rfl⟩ ?_
 rintro k ⟨hk,hinv⟩
 repeat' (with_reducible first|refine OL.st ?_|refine TC.region ?_|refine TC.seq ?_|refine OL.nil ?_|refine TX.thenN ?_|refine TC.block ?_|refine TC.skip ?_|refine TX.blkN ?_|refine TC.exit ?_|refine TX.hit ?_|refine TX.thenX ?_|refine TC.ifD ?_ ?_<;>(intro hc;try (exfalso;omega))|refine TC.ret ?_|refine TX.thenR ?_|refine TX.blkR ?_|fail)
 ·refine TX.rt1 [] (.int ?_)
  rw [hinv,drop_cons (by omega)]
  simp [fidx,← hc]
 ·refine TX.rd (k+1) [] ⟨by omega,?_⟩ (by omega)
  rw [hinv,drop_cons (by omega)]
  simp [fidx,hc]
 ·refine TX.rt1 [] (.int ?_)
  rw [hinv,drop_nil (by omega)]
  rfl
theorem s_slices_Contains_Lint_int (l:List Int) (n:Int):V.Spec Tryz.prog 30 [ints l,V.int n] [] (V.bool (l.contains n)) []:=by
 refine V.Spec.enter Tryz.tabOK Tryz.mixed Tryz.func30 rfl rfl rfl fun B hB=>?_
 repeat' (with_reducible first|refine OL.st ?_|refine TC.region ?_|refine TC.seq ?_|refine OL.nil ?_|refine TX.thenN ?_|fail)
 refine OL.c (s_slices_Index_Lint_int l n) Tryz.func78 ?_
 repeat' (with_reducible first|refine OL.st ?_|refine OL.nil ?_|refine TX.thenN ?_|refine TC.ret ?_|fail)
 refine TX.rt1 [] (.bool ?_)
 rw [← any_beq_contains]
 cases h:l.any fun x=>n==x
 ·rw [decide_eq_false];intro h';rw [(fidx_nonneg _ _ _).1 h'] at h;cases h
 ·exact decide_eq_true ((fidx_nonneg _ _ _).2 h)
theorem s_slices_IndexFunc_Lint_int (l:List (Int)) (p:Int→Bool):V.Spec Tryz.prog 89 [.sl 1 none (l.map V.int),predE Tryz.prog V.int (·∈l) p] [] (V.int (fidx p 0 l)) []:=by
 refine V.Spec.enter Tryz.tabOK Tryz.mixed Tryz.func89 rfl rfl rfl fun B hB=>?_
 refine TC.bl 0 fun hl=>?_
 repeat' (with_reducible first|refine OL.st ?_|refine TC.region ?_|refine TC.seq ?_|refine OL.nil ?_|refine TX.thenN ?_|refine TC.block ?_|fail)
 refine TC.lp (fun k:Nat=>[(0,.sl 1 none (l.map V.int)),(1,predE Tryz.prog V.int (·∈l) p),(7,V.int l.length),(8,V.int k)]) (fun _=>[]) (fun k=>k≤l.length∧fidx p 0 l=fidx p k (l.drop k)) (fun k=>l.length-k) 0 [] ⟨Nat.zero_le _,rfl⟩ ?_
 rintro k ⟨hk,hinv⟩
 repeat' (with_reducible first|refine OL.st ?_|refine TC.region ?_|refine TC.seq ?_|refine OL.nil ?_|refine TX.thenN ?_|refine TC.block ?_|refine TC.skip ?_|refine TC.exit ?_|refine TX.hit ?_|refine TX.thenX ?_|refine TC.ifD ?_ ?_<;>(intro hc;try (exfalso;omega))|refine TC.ret ?_|fail)
 ·refine OL.cf l[k] (List.getElem_mem _) ?_
  repeat' (first|(with_reducible refine OL.nil ?_)|(with_reducible refine TX.thenN ?_)|fail)
  refine TC.ifB (fun hp=>?_) (fun hp=>?_)
  ·repeat' (with_reducible first|refine OL.st ?_|refine TC.region ?_|refine TC.seq ?_|refine OL.nil ?_|refine TX.thenN ?_|refine TC.ret ?_|refine TX.thenR ?_|refine TX.blkR ?_|fail)
   refine TX.rt1 [] (.int ?_)
   rw [hinv,drop_cons (by omega)]
   simp [fidx,hp]
  ·repeat' (with_reducible first|refine OL.st ?_|refine TC.region ?_|refine OL.nil ?_|refine TX.thenN ?_|refine TC.skip ?_|refine TX.blkN ?_|fail)
   refine TX.rd (k+1) [] ⟨by omega,?_⟩ (by omega)
   rw [hinv,drop_cons (by omega)]
   simp [fidx,hp]
 ·refine TX.rt1 [] (.int ?_)
  rw [hinv,drop_nil (by omega)]
  rfl
theorem s_slices_ContainsFunc_Lint_int (l:List (Int)) (p:Int→Bool):V.Spec Tryz.prog 48 [.sl 1 none (l.map V.int),predE Tryz.prog V.int (·∈l) p] [] (V.bool (l.any p)) []:=by
 refine V.Spec.enter Tryz.tabOK Tryz.mixed Tryz.func48 rfl rfl rfl fun B hB=>?_
 repeat' (with_reducible first|refine OL.st ?_|refine TC.region ?_|refine TC.seq ?_|refine OL.nil ?_|refine TX.thenN ?_|fail)
 refine OL.c (s_slices_IndexFunc_Lint_int l p) Tryz.func89 ?_
 repeat' (with_reducible first|refine OL.st ?_|refine OL.nil ?_|refine TX.thenN ?_|refine TC.ret ?_|fail)
 refine TX.rt1 [] (.bool ?_)
 cases h:l.any p
 ·rw [decide_eq_false];intro h';rw [(fidx_nonneg _ _ _).1 h'] at h;cases h
 ·exact decide_eq_true ((fidx_nonneg _ _ _).2 h)
theorem s_line_keep_int (l:List Int) (p:Int→Bool) (hb:l.length≤1000000000):V.Spec Tryz.prog 255 [ints l,predI Tryz.prog (·∈l) p] [] (.hs 0) [.gs false Tc.int 1 none ((l.filter p).map V.int)]:=by
 refine V.Spec.enter Tryz.tabOK Tryz.mixed Tryz.func255 rfl rfl rfl fun B hB=>?_
 repeat' (with_reducible first|refine OL.st ?_|refine TC.region ?_|refine TC.seq ?_|refine OL.nil ?_|refine TX.thenN ?_|refine TC.block ?_|fail)
 refine TC.adp 5 Tc.int 1 ?_
 refine TC.lp (fun k:Nat=>[(1,predI Tryz.prog (·∈l) p),(5,.hs 0),(8,ints l),(9,V.int l.length),(10,V.int k)]) (fun k=>[.gs false Tc.int 1 none (((l.take k).filter p).map V.int)]) (fun k=>k≤l.length) (fun k=>l.length-k) 0 [0] (Nat.zero_le _) ?_
 rintro k hk
 have hfl:((l.take k).filter p).length≤l.length:=Nat.le_trans (List.length_filter_le _ _) (by simp;omega)
 repeat' (with_reducible first|refine OL.st ?_|refine TC.region ?_|refine TC.seq ?_|refine OL.nil ?_|refine TX.thenN ?_|refine TC.block ?_|refine TC.skip ?_|refine TC.exit ?_|refine TX.hit ?_|refine TX.thenX ?_|refine TC.ifD ?_ ?_<;>(intro hc;try (exfalso;omega))|refine TC.ret ?_|fail)
 ·refine OL.cf l[k] (List.getElem_mem _) ?_
  repeat' (first|(with_reducible refine OL.nil ?_)|(with_reducible refine TX.thenN ?_)|fail)
  refine TC.ifB (fun hp=>?_) (fun hp=>?_)
  ·repeat' (with_reducible first|refine OL.st ?_|refine OL.lit ?_|refine OL.appO ?_|refine TC.region ?_|refine OL.nil ?_|refine TX.thenN ?_|refine TX.blkN ?_|fail)
   have e:((l.take k).filter p).map V.int++[V.int l[k]]=((l.take (k+1)).filter p).map V.int:=by rw [filter_take_t (by omega) hp];simp
   exact TX.rd (k+1) [2] (by omega) (by omega)
  ·repeat' (with_reducible first|refine OL.st ?_|refine TC.region ?_|refine OL.nil ?_|refine TX.thenN ?_|refine TC.skip ?_|refine TX.blkN ?_|fail)
   have e:((l.take k).filter p).map V.int=((l.take (k+1)).filter p).map V.int:=by rw [filter_take_f (by omega) hp]
   exact TX.rd (k+1) [0] (by omega) (by omega)
 ·rw [take_all (by omega)]
  exact TX.rt1 [0] (.ren rfl)
end Go.Proofs
namespace Go.Proofs
open Go Go.W Go.V
abbrev initA (p:Int × Int):AV:=.st [V.int p.1,V.int p.2]
abbrev initsA (l:List (Int × Int)):AV:=.sl 2 none (l.map initA)
abbrev Cls:=List Int × List Int × List (Int × Int)
abbrev clsA (c:Cls):AV:=.st [ints c.1,ints c.2.1,initsA c.2.2]
abbrev clssA (l:List Cls):AV:=.sl 3 none (l.map clsA)
abbrev graphOf (l:List Cls):List (List Int):=l.map (·.1)
def placeN:List Int→Int→Int→Int
 | [],_,_=>-1
 | x::r,n,k=>if x=n then k else placeN r n (k+1)
end Go.Proofs
namespace Go.Proofs
open Go Go.W Go.V
theorem clone_i (l:List Int) (hb:l.length*8≤140737488355328):V.Spec Tryz.prog 112 [ints l] [] (ints l) []:=by
 refine V.Spec.enter Tryz.tabOK Tryz.mixed Tryz.func112 rfl rfl rfl fun B hB=>?_
 refine go ?_
 refine OL.isNil (fun h=>?_) ?_
 ·refine go ?_
  have e:l.map V.int=[]:=h
  exact TX.rt1 [] (.nil' e)
 ·refine go ?_
  refine TX.vw 2 ?_
  exact TX.rt1 [] (.ren rfl)
theorem clone_n (l:List (Int × Int)) (hb:l.length*16≤140737488355328):V.Spec Tryz.prog 113 [initsA l] [] (initsA l) []:=by
 refine V.Spec.enter Tryz.tabOK Tryz.mixed Tryz.func113 rfl rfl rfl fun B hB=>?_
 refine go ?_
 refine OL.isNil (fun h=>?_) ?_
 ·refine go ?_
  have e:l.map initA=[]:=h
  exact TX.rt1 [] (.nil' e)
 ·refine go ?_
  refine TX.vw 2 ?_
  exact TX.rt1 [] (.ren rfl)
abbrev funC (P:Program) (dom:Cls→Prop) (r:Cls→AV):AV:=.pr (FunMP P dom (fun c=>[clsA c]) r (fun _=>[]))
theorem s_each_CL (l:List Cls) (f:Cls→List Int) (hb:l.length*72≤140737488355328):V.Spec Tryz.prog 117 [clssA l,funC Tryz.prog (·∈l) (fun c=>ints (f c))] [] (rows (l.map f)) []:=by
 refine V.Spec.enter Tryz.tabOK Tryz.mixed Tryz.func117 rfl rfl rfl fun B hB=>?_
 refine go ?_
 refine TC.adp 5 Tc.Lint 1 ?_
 refine TC.lp (fun k:Nat=>[(1,funC Tryz.prog (·∈l) (fun c=>ints (f c))),(5,.hs 0),(8,clssA l),(9,V.int l.length),(10,V.int k)]) (fun k=>[.gs false Tc.Lint 1 none (((l.take k).map f).map ints)]) (fun k=>k≤l.length) (fun k=>l.length-k) 0 [0] (Nat.zero_le _) ?_
 rintro k hk
 by_cases hkl:k < l.length
 ·have hlen:((l.take k).map f).length=k:=by simp;omega
  have e:((l.take k).map f).map ints++[ints (f l[k])]=((l.take (k+1)).map f).map ints:=by rw [take_succ hkl,List.map_append,List.map_append];rfl
  generalize (l.take k).map f=gk at *
  refine go ?_
  refine OL.cf l[k] (List.getElem_mem _) ?_
  refine go ?_
  exact TX.rd (k+1) [3] (by omega) (by omega)
 ·rw [take_all (by omega)]
  refine go ?_
  refine TX.vw 4 ?_
  exact TX.rt1 [] (.ren rfl)
theorem s_turn_read_1 (c:Cls):V.Spec Tryz.prog 118 [clsA c] [] (ints c.1) []:=by
 refine V.Spec.enter Tryz.tabOK Tryz.mixed Tryz.func118 rfl rfl rfl fun B hB=>?_
 refine go ?_
 exact TX.rt1 [] (.ren rfl)
theorem s_each_CC (l:List Cls) (f:Cls→Cls) (hb:l.length*72≤140737488355328):V.Spec Tryz.prog 83 [clssA l,funC Tryz.prog (·∈l) (fun c=>clsA (f c))] [] (clssA (l.map f)) []:=by
 refine V.Spec.enter Tryz.tabOK Tryz.mixed Tryz.func83 rfl rfl rfl fun B hB=>?_
 refine go ?_
 refine TC.adp 5 Tc.api_BindClass 3 ?_
 refine TC.lp (fun k:Nat=>[(1,funC Tryz.prog (·∈l) (fun c=>clsA (f c))),(5,.hs 0),(8,clssA l),(9,V.int l.length),(10,V.int k)]) (fun k=>[.gs false Tc.api_BindClass 3 none (((l.take k).map f).map clsA)]) (fun k=>k≤l.length) (fun k=>l.length-k) 0 [0] (Nat.zero_le _) ?_
 rintro k hk
 by_cases hkl:k < l.length
 ·have hlen:((l.take k).map f).length=k:=by simp;omega
  have e:((l.take k).map f).map clsA++[clsA (f l[k])]=((l.take (k+1)).map f).map clsA:=by rw [take_succ hkl,List.map_append,List.map_append];rfl
  generalize (l.take k).map f=gk at *
  refine go ?_
  refine OL.cf l[k] (List.getElem_mem _) ?_
  refine go ?_
  exact TX.rd (k+1) [3] (by omega) (by omega)
 ·rw [take_all (by omega)]
  refine go ?_
  refine TX.vw 4 ?_
  exact TX.rt1 [] (.ren rfl)
theorem s_turn_copied (c:Cls) (h1:c.1.length*8≤140737488355328) (h2:c.2.1.length*8≤140737488355328) (h3:c.2.2.length*16≤140737488355328):V.Spec Tryz.prog 84 [clsA c] [] (clsA c) []:=by
 refine V.Spec.enter Tryz.tabOK Tryz.mixed Tryz.func84 rfl rfl rfl fun B hB=>?_
 refine go ?_
 (with_reducible refine TC.draw (id:=1) true 10 11 ?_<;>refine OD.st4 0 1 3 4 ?_<;>refine OD.st2 6 7 ?_<;>refine OD.c1 2 (clone_i c.1 h1) Tryz.func112 ?_<;>refine OD.c1 5 (clone_i c.2.1 h2) Tryz.func112 ?_<;>refine OD.c1 8 (clone_n c.2.2 h3) Tryz.func113 ?_<;>refine OD.s1 9 ?_ (h:=gvBuild)<;>(refine OD.a1 10 ?_;refine OL.storeAgg ?_;refine OL.nil ?_;refine TX.od ?_)<;>refine OD.dn ?_)
 all_goals repeat' (first|(with_reducible refine TX.thenN ?_)|(with_reducible refine TC.ret ?_)|fail)
 all_goals exact TX.rtc [] (.ren rfl)
end Go.Proofs
namespace Go.Proofs
open Go Go.W Go.V
theorem s_ref04_SameInts (la lb:List Int):V.Spec Tryz.prog 90 [ints la,ints lb] [] (V.bool (la==lb)) []:=by
 refine V.Spec.enter Tryz.tabOK Tryz.mixed Tryz.func90 rfl rfl rfl fun B hB=>?_
 refine TC.bl 0 fun hla=>TC.bl 1 fun hlb=>?_
 by_cases hl:la.length=lb.length
 ·refine go ?_
  refine TC.lp (fun k:Nat=>[(0,ints la),(1,ints lb),(12,V.int la.length),(13,V.int k)]) (fun _=>[]) (fun k=>k≤la.length∧la.take k=lb.take k) (fun k=>la.length-k) 0 [] ⟨Nat.zero_le _,by simp⟩ ?_
  rintro k ⟨hk,hpre⟩
  by_cases hkl:k < la.length
  ·by_cases he:la[k]=lb[k]
   ·repeat' (first|(with_reducible first|refine OL.st ?_|refine TC.region ?_|refine TC.seq ?_|refine OL.nil ?_|refine TX.thenN ?_|refine TC.block ?_|refine TC.skip ?_|refine TX.blkN ?_|refine TC.ifD ?_ ?_<;>(intro hc;try (exfalso;omega)))|((with_reducible refine TC.draw (id:=6) true 9 9 ?_<;>refine OD.st 0 ?_<;>refine OD.st 1 ?_<;>refine OD.st 2 ?_<;>refine OD.st 3 ?_<;>refine OD.st 4 ?_<;>refine OD.st 5 ?_<;>refine OD.st 6 ?_<;>refine OD.st 7 ?_<;>refine OD.st 8 ?_<;>refine OD.dn ?_))|fail)
    refine TX.rd (k+1) [] ⟨by omega,?_⟩ (by omega)
    rw [take_succ (by omega),take_succ (by omega),hpre,he]
   ·repeat' (first|(with_reducible first|refine OL.st ?_|refine TC.region ?_|refine TC.seq ?_|refine OL.nil ?_|refine TX.thenN ?_|refine TC.block ?_|refine TC.skip ?_|refine TC.ifD ?_ ?_<;>(intro hc;try (exfalso;omega))|refine TC.ret ?_|refine TX.thenR ?_|refine TX.blkR ?_)|((with_reducible refine TC.draw (id:=6) true 9 9 ?_<;>refine OD.st 0 ?_<;>refine OD.st 1 ?_<;>refine OD.st 2 ?_<;>refine OD.st 3 ?_<;>refine OD.st 4 ?_<;>refine OD.st 5 ?_<;>refine OD.st 6 ?_<;>refine OD.st 7 ?_<;>refine OD.st 8 ?_<;>refine OD.dn ?_))|fail)
    refine TX.rt1 [] (.bool ?_)
    have:la≠lb:=fun e=>by subst e;exact he rfl
    simp [this]
  ·refine go ?_
   refine TX.rt1 [] (.bool ?_)
   have e:la=lb:=by
    rw [← take_all (l:=la) (k:=k) (by omega),← take_all (l:=lb) (k:=k) (by omega)]
    exact hpre
   simp [e]
 ·refine go ?_
  refine TX.rt1 [] (.bool ?_)
  have:la≠lb:=fun e=>by subst e;exact hl rfl
  simp [this]
theorem s_ref17_SameErrs (la lb:List Int):V.Spec Tryz.prog 23 [ints la,ints lb] [] (V.bool (la==lb)) []:=by
 refine V.Spec.enter Tryz.tabOK Tryz.mixed Tryz.func23 rfl rfl rfl fun B hB=>?_
 refine TC.bl 0 fun hla=>TC.bl 1 fun hlb=>?_
 by_cases hl:la.length=lb.length
 ·refine go ?_
  refine TC.lp (fun k:Nat=>[(0,ints la),(1,ints lb),(12,V.int la.length),(13,V.int k)]) (fun _=>[]) (fun k=>k≤la.length∧la.take k=lb.take k) (fun k=>la.length-k) 0 [] ⟨Nat.zero_le _,by simp⟩ ?_
  rintro k ⟨hk,hpre⟩
  by_cases hkl:k < la.length
  ·by_cases he:la[k]=lb[k]
   ·repeat' (first|(with_reducible first|refine OL.st ?_|refine TC.region ?_|refine TC.seq ?_|refine OL.nil ?_|refine TX.thenN ?_|refine TC.block ?_|refine TC.skip ?_|refine TX.blkN ?_|refine TC.ifD ?_ ?_<;>(intro hc;try (exfalso;omega)))|((with_reducible refine TC.draw (id:=6) true 9 9 ?_<;>refine OD.st 0 ?_<;>refine OD.st 1 ?_<;>refine OD.st 2 ?_<;>refine OD.st 3 ?_<;>refine OD.st 4 ?_<;>refine OD.st 5 ?_<;>refine OD.st 6 ?_<;>refine OD.st 7 ?_<;>refine OD.st 8 ?_<;>refine OD.dn ?_))|fail)
    refine TX.rd (k+1) [] ⟨by omega,?_⟩ (by omega)
    rw [take_succ (by omega),take_succ (by omega),hpre,he]
   ·repeat' (first|(with_reducible first|refine OL.st ?_|refine TC.region ?_|refine TC.seq ?_|refine OL.nil ?_|refine TX.thenN ?_|refine TC.block ?_|refine TC.skip ?_|refine TC.ifD ?_ ?_<;>(intro hc;try (exfalso;omega))|refine TC.ret ?_|refine TX.thenR ?_|refine TX.blkR ?_)|((with_reducible refine TC.draw (id:=6) true 9 9 ?_<;>refine OD.st 0 ?_<;>refine OD.st 1 ?_<;>refine OD.st 2 ?_<;>refine OD.st 3 ?_<;>refine OD.st 4 ?_<;>refine OD.st 5 ?_<;>refine OD.st 6 ?_<;>refine OD.st 7 ?_<;>refine OD.st 8 ?_<;>refine OD.dn ?_))|fail)
    refine TX.rt1 [] (.bool ?_)
    have:la≠lb:=fun e=>by subst e;exact he rfl
    simp [this]
  ·refine go ?_
   refine TX.rt1 [] (.bool ?_)
   have e:la=lb:=by
    rw [← take_all (l:=la) (k:=k) (by omega),← take_all (l:=lb) (k:=k) (by omega)]
    exact hpre
   simp [e]
 ·refine go ?_
  refine TX.rt1 [] (.bool ?_)
  have:la≠lb:=fun e=>by subst e;exact hl rfl
  simp [this]
theorem eqSI:EqS2 Tryz.prog Tc.api_BindInit 3 .i64:=⟨by kernel_rfl,by kernel_rfl,by kernel_rfl,Tryz.underlying3,by kernel_rfl⟩
theorem s_ref05_SameInits (la lb:List (Int × Int)):V.Spec Tryz.prog 91 [initsA la,initsA lb] [] (V.bool (la==lb)) []:=by
 refine V.Spec.enter Tryz.tabOK Tryz.mixed Tryz.func91 rfl rfl rfl fun B hB=>?_
 refine TC.bl 0 fun hla=>TC.bl 1 fun hlb=>?_
 by_cases hl:la.length=lb.length
 ·refine go ?_
  refine TC.lp (fun k:Nat=>[(0,initsA la),(1,initsA lb),(5,V.int k)]) (fun _=>[]) (fun k=>k≤la.length∧la.take k=lb.take k) (fun k=>la.length-k) 0 [] ⟨Nat.zero_le _,by simp⟩ ?_
  rintro k ⟨hk,hpre⟩
  by_cases hkl:k < la.length
  ·obtain ⟨a1,a2⟩:∃ t:Bool,t=(la[k].1==(lb[k]'(by omega)).1&&la[k].2==(lb[k]'(by omega)).2):=⟨_,rfl⟩
   refine go ?_
   (with_reducible refine TC.draw (id:=6) true 8 9 ?_<;>refine OD.st 0 ?_<;>refine OD.st 1 ?_<;>refine OD.st 2 ?_<;>refine OD.st 3 ?_<;>refine OD.st 4 ?_<;>refine OD.st 5 ?_<;>refine OD.st 6 ?_<;>refine OD.st 7 ?_<;>(refine OD.a1 8 ?_;refine OL.neS2 eqSI ?_;rw [← a2];refine OL.nil ?_;refine TX.od ?_)<;>refine OD.dn ?_)
   refine go ?_
   cases a1
   ·refine go ?_
    refine TX.rt1 [] (.bool ?_)
    have:la≠lb:=fun e=>by subst e;simp at a2
    simp [this]
   ·have h:la[k]=lb[k]'(by omega):=by
     have:=a2.symm
     simp only [Bool.and_eq_true,beq_iff_eq] at this
     exact Prod.ext this.1 this.2
    refine go ?_
    refine TX.rd (k+1) [] ⟨by omega,?_⟩ (by omega)
    rw [take_succ (by omega),take_succ (by omega),hpre,h]
  ·refine go ?_
   refine TX.rt1 [] (.bool ?_)
   have e:la=lb:=by
    rw [← take_all (l:=la) (k:=k) (by omega),← take_all (l:=lb) (k:=k) (by omega)]
    exact hpre
   simp [e]
 ·refine go ?_
  refine TX.rt1 [] (.bool ?_)
  have:la≠lb:=fun e=>by subst e;exact hl rfl
  simp [this]
theorem s_ref17_SameClass (a b:Cls):V.Spec Tryz.prog 51 [clsA a,clsA b] [] (V.bool (a==b)) []:=by
 have h1:=s_ref04_SameInts a.1 b.1
 have h2:=s_ref04_SameInts a.2.1 b.2.1
 have h3:=s_ref05_SameInits a.2.2 b.2.2
 have e:(a==b)=((a.1==b.1)&&((a.2.1==b.2.1)&&(a.2.2==b.2.2))):=rfl
 rw [e]
 refine V.Spec.enter Tryz.tabOK Tryz.mixed Tryz.func51 rfl rfl rfl fun B hB=>?_
 refine go ?_
 refine OL.c h1 Tryz.func90 ?_
 cases a.1==b.1
 ·refine go ?_
  refine TX.rt1 [] (.bool ?_)
  simp
 ·refine go ?_
  refine OL.c h2 Tryz.func90 ?_
  cases a.2.1==b.2.1
  ·refine go ?_
   refine TX.rt1 [] (.bool ?_)
   simp
  ·refine go ?_
   refine OL.c h3 Tryz.func91 ?_
   refine go ?_
   refine TX.rt1 [] (.bool ?_)
   simp
end Go.Proofs
namespace Go.Proofs
open Go Go.W Go.V
theorem s_ref17_SameClasses (la lb:List Cls):V.Spec Tryz.prog 57 [clssA la,clssA lb] [] (V.bool (la==lb)) []:=by
 refine V.Spec.enter Tryz.tabOK Tryz.mixed Tryz.func57 rfl rfl rfl fun B hB=>?_
 refine TC.bl 0 fun hla=>TC.bl 1 fun hlb=>?_
 by_cases hl:la.length=lb.length
 ·refine go ?_
  refine TC.lp (fun k:Nat=>[(0,clssA la),(1,clssA lb),(12,V.int la.length),(13,V.int k)]) (fun _=>[]) (fun k=>k≤la.length∧la.take k=lb.take k) (fun k=>la.length-k) 0 [] ⟨Nat.zero_le _,by simp⟩ ?_
  rintro k ⟨hk,hpre⟩
  by_cases hkl:k < la.length
  ·have hs:=s_ref17_SameClass la[k] (lb[k]'(by omega))
   refine go ?_
   (with_reducible refine TC.draw (id:=6) true 10 10 ?_<;>refine OD.st4 0 1 2 3 ?_<;>refine OD.st4 4 5 6 7 ?_<;>refine OD.c1 8 hs Tryz.func51 ?_<;>refine OD.st 9 ?_<;>refine OD.dn ?_)
   refine go ?_
   cases he:la[k]==(lb[k]'(by omega))
   ·refine go ?_
    refine TX.rt1 [] (.bool ?_)
    have:la≠lb:=fun e=>by subst e;simp at he
    simp [this]
   ·refine go ?_
    refine TX.rd (k+1) [] ⟨by omega,?_⟩ (by omega)
    rw [take_succ (by omega),take_succ (by omega),hpre,eq_of_beq he]
  ·refine go ?_
   refine TX.rt1 [] (.bool ?_)
   have e:la=lb:=by
    rw [← take_all (l:=la) (k:=k) (by omega),← take_all (l:=lb) (k:=k) (by omega)]
    exact hpre
   simp [e]
 ·refine go ?_
  refine TX.rt1 [] (.bool ?_)
  have:la≠lb:=fun e=>by subst e;exact hl rfl
  simp [this]
def Short (l:List Cls):Prop:=l.length*72≤140737488355328∧∀ c∈l,c.1.length*8≤140737488355328∧c.2.1.length*8≤140737488355328∧c.2.2.length*16≤140737488355328
end Go.Proofs
