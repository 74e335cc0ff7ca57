/- Lemmas for the claim; no conditions. -/
import Derived.Test.YtdjhogobbbnddaaGreatC6
import Derived.Test.YtdjhogobbbnddaaGreatProg
import Derived.OwnWalk
import Derived.KernelRfl
import Derived.Test.YtdjhogobbbnddaaGreatC18
import Derived.Test.YtdjhogobbbnddaaGreatC13
import Derived.Test.YtdjhogobbbnddaaGreatC19
namespace Go.Proofs
open Go Go.V
theorem Yas {P:Program} {t size bytes:Nat} {d:TypeDesc} {sh:Sh} {z:Value} (hu:P.underlying t=some d) (hs:Yt3 d sh) (h:(P.info? t).map (fun i=>(i.zero,i.size,i.bytes))=some (some z,size,bytes)) (hz:z.cells.size=size):TyOK P t ⟨sh,size,bytes,z⟩:=⟨⟨d,hu,hs⟩,by
 obtain ⟨i0,hi,hz0,hs0,hb0⟩:=info_parts h;exact ⟨i0,hi,hs0,hb0,hz0,hz⟩⟩
theorem Tryz.ty1:TyOK Tryz.prog 1 ⟨.plain,1,8,.nilFunc⟩:=Yas Tryz.underlying1 ⟨nofun,nofun⟩ (by kernel_rfl) rfl
theorem Tryz.ty3:TyOK Tryz.prog 3 ⟨.int .i64,1,8,.int .i64 0⟩:=Yas Tryz.underlying3 rfl (by kernel_rfl) rfl
theorem Tryz.ty4:TyOK Tryz.prog 4 ⟨.plain,1,1,.bool false⟩:=Yas Tryz.underlying4 ⟨nofun,nofun⟩ (by kernel_rfl) rfl
theorem Tryz.ty5:TyOK Tryz.prog 5 ⟨.int .u8,1,1,.int .u8 0⟩:=Yas Tryz.underlying5 rfl (by kernel_rfl) rfl
theorem Tryz.ty9:TyOK Tryz.prog 9 ⟨.plain,1,16,.string ByteArray.empty⟩:=Yas Tryz.underlying9 ⟨nofun,nofun⟩ (by kernel_rfl) rfl
theorem Tryz.ty20:TyOK Tryz.prog 20 ⟨.plain,1,16,.nilIface⟩:=Yas Tryz.underlying20 ⟨nofun,nofun⟩ (by kernel_rfl) rfl
theorem Tryz.ty22:TyOK Tryz.prog 22 ⟨.slice 154,1,24,.slice none 0 0⟩:=Yas Tryz.underlying22 rfl (by kernel_rfl) rfl
theorem Tryz.ty23:TyOK Tryz.prog 23 ⟨.slice 3,1,24,.slice none 0 0⟩:=Yas Tryz.underlying23 rfl (by kernel_rfl) rfl
theorem Tryz.ty24:TyOK Tryz.prog 24 ⟨.slice 161,1,24,.slice none 0 0⟩:=Yas Tryz.underlying24 rfl (by kernel_rfl) rfl
theorem Tryz.ty25:TyOK Tryz.prog 25 ⟨.slice 164,1,24,.slice none 0 0⟩:=Yas Tryz.underlying25 rfl (by kernel_rfl) rfl
theorem Tryz.ty27:TyOK Tryz.prog 27 ⟨.strct [(0,22),(1,3),(2,23),(3,24),(4,25),(5,3)],6,112,.agg #[.slice none 0 0,.int .i64 0,.slice none 0 0,.slice none 0 0,.slice none 0 0,.int .i64 0]⟩:=Yas Tryz.underlying27 ⟨_,rfl,rfl⟩ (by kernel_rfl) rfl
theorem Tryz.ty28:TyOK Tryz.prog 28 ⟨.slice 89,1,24,.slice none 0 0⟩:=Yas Tryz.underlying28 rfl (by kernel_rfl) rfl
theorem Tryz.ty30:TyOK Tryz.prog 30 ⟨.strct [(0,23)],1,24,.agg #[.slice none 0 0]⟩:=Yas Tryz.underlying30 ⟨_,rfl,rfl⟩ (by kernel_rfl) rfl
theorem Tryz.ty31:TyOK Tryz.prog 31 ⟨.int .i64,1,8,.int .i64 0⟩:=Yas Tryz.underlying31 rfl (by kernel_rfl) rfl
theorem Tryz.ty38:TyOK Tryz.prog 38 ⟨.slice 63,1,24,.slice none 0 0⟩:=Yas Tryz.underlying38 rfl (by kernel_rfl) rfl
theorem Tryz.ty45:TyOK Tryz.prog 45 ⟨.array 2 23,2,48,.agg #[.slice none 0 0,.slice none 0 0]⟩:=Yas Tryz.underlying45 rfl (by kernel_rfl) rfl
theorem Tryz.ty47:TyOK Tryz.prog 47 ⟨.strct [(0,30),(1,30),(2,45)],4,96,.agg #[.slice none 0 0,.slice none 0 0,.slice none 0 0,.slice none 0 0]⟩:=Yas Tryz.underlying47 ⟨_,rfl,rfl⟩ (by kernel_rfl) rfl
theorem Tryz.ty54:TyOK Tryz.prog 54 ⟨.slice 5,1,24,.slice none 0 0⟩:=Yas Tryz.underlying54 rfl (by kernel_rfl) rfl
theorem Tryz.ty61:TyOK Tryz.prog 61 ⟨.int .i64,1,8,.int .i64 0⟩:=Yas Tryz.underlying61 rfl (by kernel_rfl) rfl
theorem Tryz.ty63:TyOK Tryz.prog 63 ⟨.strct [(0,61),(1,3)],2,16,.agg #[.int .i64 0,.int .i64 0]⟩:=Yas Tryz.underlying63 ⟨_,rfl,rfl⟩ (by kernel_rfl) rfl
theorem Tryz.ty65:TyOK Tryz.prog 65 ⟨.strct [(0,3),(1,3),(2,3),(3,3)],4,32,.agg #[.int .i64 0,.int .i64 0,.int .i64 0,.int .i64 0]⟩:=Yas Tryz.underlying65 ⟨_,rfl,rfl⟩ (by kernel_rfl) rfl
theorem Tryz.ty86:TyOK Tryz.prog 86 ⟨.ptr 93,1,8,.pointer none⟩:=Yas Tryz.underlying86 rfl (by kernel_rfl) rfl
theorem Tryz.ty89:TyOK Tryz.prog 89 ⟨.strct [(0,3),(1,38)],2,32,.agg #[.int .i64 0,.slice none 0 0]⟩:=Yas Tryz.underlying89 ⟨_,rfl,rfl⟩ (by kernel_rfl) rfl
theorem Tryz.ty90:TyOK Tryz.prog 90 ⟨.map 3 23,1,8,.map none⟩:=Yas Tryz.underlying90 rfl (by kernel_rfl) rfl
theorem Tryz.ty91:TyOK Tryz.prog 91 ⟨.slice 4,1,24,.slice none 0 0⟩:=Yas Tryz.underlying91 rfl (by kernel_rfl) rfl
theorem Tryz.ty93:TyOK Tryz.prog 93 ⟨.strct [(0,30),(1,27),(7,90),(8,91)],9,168,.agg #[.slice none 0 0,.slice none 0 0,.int .i64 0,.slice none 0 0,.slice none 0 0,.slice none 0 0,.int .i64 0,.map none,.slice none 0 0]⟩:=Yas Tryz.underlying93 ⟨_,rfl,rfl⟩ (by kernel_rfl) rfl
theorem Tryz.ty98:TyOK Tryz.prog 98 ⟨.plain,1,8,.nilFunc⟩:=Yas Tryz.underlying98 ⟨nofun,nofun⟩ (by kernel_rfl) rfl
theorem Tryz.ty100:TyOK Tryz.prog 100 ⟨.plain,1,8,.nilFunc⟩:=Yas Tryz.underlying100 ⟨nofun,nofun⟩ (by kernel_rfl) rfl
theorem Tryz.ty107:TyOK Tryz.prog 107 ⟨.plain,1,8,.nilFunc⟩:=Yas Tryz.underlying107 ⟨nofun,nofun⟩ (by kernel_rfl) rfl
theorem Tryz.ty110:TyOK Tryz.prog 110 ⟨.map 3 3,1,8,.map none⟩:=Yas Tryz.underlying110 rfl (by kernel_rfl) rfl
theorem Tryz.ty128:TyOK Tryz.prog 128 ⟨.slice 23,1,24,.slice none 0 0⟩:=Yas Tryz.underlying128 rfl (by kernel_rfl) rfl
theorem Tryz.ty130:TyOK Tryz.prog 130 ⟨.strct [(0,128),(1,23)],2,48,.agg #[.slice none 0 0,.slice none 0 0]⟩:=Yas Tryz.underlying130 ⟨_,rfl,rfl⟩ (by kernel_rfl) rfl
theorem Tryz.ty138:TyOK Tryz.prog 138 ⟨.plain,1,8,.nilFunc⟩:=Yas Tryz.underlying138 ⟨nofun,nofun⟩ (by kernel_rfl) rfl
theorem Tryz.ty143:TyOK Tryz.prog 143 ⟨.int .u64,1,8,.int .u64 0⟩:=Yas Tryz.underlying143 rfl (by kernel_rfl) rfl
theorem Tryz.ty149:TyOK Tryz.prog 149 ⟨.strct [(0,31)],1,8,.agg #[.int .i64 0]⟩:=Yas Tryz.underlying149 ⟨_,rfl,rfl⟩ (by kernel_rfl) rfl
theorem Tryz.ty151:TyOK Tryz.prog 151 ⟨.strct [(0,3),(1,3)],2,16,.agg #[.int .i64 0,.int .i64 0]⟩:=Yas Tryz.underlying151 ⟨_,rfl,rfl⟩ (by kernel_rfl) rfl
theorem Tryz.ty152:TyOK Tryz.prog 152 ⟨.slice 151,1,24,.slice none 0 0⟩:=Yas Tryz.underlying152 rfl (by kernel_rfl) rfl
theorem Tryz.ty154:TyOK Tryz.prog 154 ⟨.strct [(0,23),(1,23),(2,152)],3,72,.agg #[.slice none 0 0,.slice none 0 0,.slice none 0 0]⟩:=Yas Tryz.underlying154 ⟨_,rfl,rfl⟩ (by kernel_rfl) rfl
theorem Tryz.ty155:TyOK Tryz.prog 155 ⟨.int .i64,1,8,.int .i64 0⟩:=Yas Tryz.underlying155 rfl (by kernel_rfl) rfl
theorem Tryz.ty156:TyOK Tryz.prog 156 ⟨.int .i64,1,8,.int .i64 0⟩:=Yas Tryz.underlying156 rfl (by kernel_rfl) rfl
theorem Tryz.ty157:TyOK Tryz.prog 157 ⟨.slice 159,1,24,.slice none 0 0⟩:=Yas Tryz.underlying157 rfl (by kernel_rfl) rfl
theorem Tryz.ty159:TyOK Tryz.prog 159 ⟨.strct [(0,156),(1,3),(2,23),(3,3),(4,3),(5,157)],6,80,.agg #[.int .i64 0,.int .i64 0,.slice none 0 0,.int .i64 0,.int .i64 0,.slice none 0 0]⟩:=Yas Tryz.underlying159 ⟨_,rfl,rfl⟩ (by kernel_rfl) rfl
theorem Tryz.ty161:TyOK Tryz.prog 161 ⟨.strct [(0,155),(1,3),(2,159),(8,3)],9,104,.agg #[.int .i64 0,.int .i64 0,.int .i64 0,.int .i64 0,.slice none 0 0,.int .i64 0,.int .i64 0,.slice none 0 0,.int .i64 0]⟩:=Yas Tryz.underlying161 ⟨_,rfl,rfl⟩ (by kernel_rfl) rfl
theorem Tryz.ty162:TyOK Tryz.prog 162 ⟨.int .i64,1,8,.int .i64 0⟩:=Yas Tryz.underlying162 rfl (by kernel_rfl) rfl
theorem Tryz.ty164:TyOK Tryz.prog 164 ⟨.strct [(0,162),(1,3),(2,23)],3,40,.agg #[.int .i64 0,.int .i64 0,.slice none 0 0]⟩:=Yas Tryz.underlying164 ⟨_,rfl,rfl⟩ (by kernel_rfl) rfl
theorem Tryz.ty166:TyOK Tryz.prog 166 ⟨.map 3 4,1,8,.map none⟩:=Yas Tryz.underlying166 rfl (by kernel_rfl) rfl
theorem Tryz.ty169:TyOK Tryz.prog 169 ⟨.map 171 4,1,8,.map none⟩:=Yas Tryz.underlying169 rfl (by kernel_rfl) rfl
theorem Tryz.ty170:TyOK Tryz.prog 170 ⟨.slice 171,1,24,.slice none 0 0⟩:=Yas Tryz.underlying170 rfl (by kernel_rfl) rfl
theorem Tryz.ty171:TyOK Tryz.prog 171 ⟨.array 2 3,2,16,.agg #[.int .i64 0,.int .i64 0]⟩:=Yas Tryz.underlying171 rfl (by kernel_rfl) rfl
theorem Tryz.ty186:TyOK Tryz.prog 186 ⟨.plain,1,8,.nilFunc⟩:=Yas Tryz.underlying186 ⟨nofun,nofun⟩ (by kernel_rfl) rfl
theorem Tryz.ty187:TyOK Tryz.prog 187 ⟨.plain,1,8,.nilFunc⟩:=Yas Tryz.underlying187 ⟨nofun,nofun⟩ (by kernel_rfl) rfl
theorem Tryz.ty189:TyOK Tryz.prog 189 ⟨.ptr 216,1,8,.pointer none⟩:=Yas Tryz.underlying189 rfl (by kernel_rfl) rfl
theorem Tryz.ty194:TyOK Tryz.prog 194 ⟨.plain,1,8,.nilFunc⟩:=Yas Tryz.underlying194 ⟨nofun,nofun⟩ (by kernel_rfl) rfl
theorem Tryz.ty204:TyOK Tryz.prog 204 ⟨.strct [(0,3),(1,3)],2,16,.agg #[.int .i64 0,.int .i64 0]⟩:=Yas Tryz.underlying204 ⟨_,rfl,rfl⟩ (by kernel_rfl) rfl
theorem Tryz.ty206:TyOK Tryz.prog 206 ⟨.plain,1,16,.nilIface⟩:=Yas Tryz.underlying206 ⟨nofun,nofun⟩ (by kernel_rfl) rfl
theorem Tryz.ty208:TyOK Tryz.prog 208 ⟨.int .i64,1,8,.int .i64 0⟩:=Yas Tryz.underlying208 rfl (by kernel_rfl) rfl
theorem Tryz.ty210:TyOK Tryz.prog 210 ⟨.strct [],0,0,.agg #[]⟩:=Yas Tryz.underlying210 ⟨_,rfl,rfl⟩ (by kernel_rfl) rfl
theorem Tryz.ty214:TyOK Tryz.prog 214 ⟨.map 3 89,1,8,.map none⟩:=Yas Tryz.underlying214 rfl (by kernel_rfl) rfl
theorem Tryz.ty216:TyOK Tryz.prog 216 ⟨.strct [(0,27),(6,90),(7,214)],8,128,.agg #[.slice none 0 0,.int .i64 0,.slice none 0 0,.slice none 0 0,.slice none 0 0,.int .i64 0,.map none,.map none]⟩:=Yas Tryz.underlying216 ⟨_,rfl,rfl⟩ (by kernel_rfl) rfl
theorem Tryz.ty220:TyOK Tryz.prog 220 ⟨.plain,1,8,.nilFunc⟩:=Yas Tryz.underlying220 ⟨nofun,nofun⟩ (by kernel_rfl) rfl
theorem Tryz.ty224:TyOK Tryz.prog 224 ⟨.strct [],0,0,.agg #[]⟩:=Yas Tryz.underlying224 ⟨_,rfl,rfl⟩ (by kernel_rfl) rfl
theorem Tryz.ty230:TyOK Tryz.prog 230 ⟨.plain,1,8,.nilFunc⟩:=Yas Tryz.underlying230 ⟨nofun,nofun⟩ (by kernel_rfl) rfl
theorem Tryz.ty231:TyOK Tryz.prog 231 ⟨.ptr 282,1,8,.pointer none⟩:=Yas Tryz.underlying231 rfl (by kernel_rfl) rfl
theorem Tryz.ty243:TyOK Tryz.prog 243 ⟨.plain,1,8,.nilFunc⟩:=Yas Tryz.underlying243 ⟨nofun,nofun⟩ (by kernel_rfl) rfl
theorem Tryz.ty248:TyOK Tryz.prog 248 ⟨.plain,1,8,.nilFunc⟩:=Yas Tryz.underlying248 ⟨nofun,nofun⟩ (by kernel_rfl) rfl
theorem Tryz.ty249:TyOK Tryz.prog 249 ⟨.ptr 254,1,8,.pointer none⟩:=Yas Tryz.underlying249 rfl (by kernel_rfl) rfl
theorem Tryz.ty252:TyOK Tryz.prog 252 ⟨.slice 276,1,24,.slice none 0 0⟩:=Yas Tryz.underlying252 rfl (by kernel_rfl) rfl
theorem Tryz.ty254:TyOK Tryz.prog 254 ⟨.strct [(0,128),(1,252),(2,90)],3,56,.agg #[.slice none 0 0,.slice none 0 0,.map none]⟩:=Yas Tryz.underlying254 ⟨_,rfl,rfl⟩ (by kernel_rfl) rfl
theorem Tryz.ty255:TyOK Tryz.prog 255 ⟨.int .u32,1,4,.int .u32 0⟩:=Yas Tryz.underlying255 rfl (by kernel_rfl) rfl
theorem Tryz.ty258:TyOK Tryz.prog 258 ⟨.int .u64,1,8,.int .u64 0⟩:=Yas Tryz.underlying258 rfl (by kernel_rfl) rfl
theorem Tryz.ty276:TyOK Tryz.prog 276 ⟨.array 1 258,1,8,.agg #[.int .u64 0]⟩:=Yas Tryz.underlying276 rfl (by kernel_rfl) rfl
theorem Tryz.ty279:TyOK Tryz.prog 279 ⟨.int .u64,1,8,.int .u64 0⟩:=Yas Tryz.underlying279 rfl (by kernel_rfl) rfl
theorem Tryz.ty280:TyOK Tryz.prog 280 ⟨.array 63 279,63,504,.agg #[.int .u64 0,.int .u64 0,.int .u64 0,.int .u64 0,.int .u64 0,.int .u64 0,.int .u64 0,.int .u64 0,.int .u64 0,.int .u64 0,.int .u64 0,.int .u64 0,.int .u64 0,.int .u64 0,.int .u64 0,.int .u64 0,.int .u64 0,.int .u64 0,.int .u64 0,.int .u64 0,.int .u64 0,.int .u64 0,.int .u64 0,.int .u64 0,.int .u64 0,.int .u64 0,.int .u64 0,.int .u64 0,.int .u64 0,.int .u64 0,.int .u64 0,.int .u64 0,.int .u64 0,.int .u64 0,.int .u64 0,.int .u64 0,.int .u64 0,.int .u64 0,.int .u64 0,.int .u64 0,.int .u64 0,.int .u64 0,.int .u64 0,.int .u64 0,.int .u64 0,.int .u64 0,.int .u64 0,.int .u64 0,.int .u64 0,.int .u64 0,.int .u64 0,.int .u64 0,.int .u64 0,.int .u64 0,.int .u64 0,.int .u64 0,.int .u64 0,.int .u64 0,.int .u64 0,.int .u64 0,.int .u64 0,.int .u64 0,.int .u64 0]⟩:=Yas Tryz.underlying280 rfl (by kernel_rfl) rfl
theorem Tryz.ty282:TyOK Tryz.prog 282 ⟨.strct [(0,130),(2,280)],65,552,.agg #[.slice none 0 0,.slice none 0 0,.int .u64 0,.int .u64 0,.int .u64 0,.int .u64 0,.int .u64 0,.int .u64 0,.int .u64 0,.int .u64 0,.int .u64 0,.int .u64 0,.int .u64 0,.int .u64 0,.int .u64 0,.int .u64 0,.int .u64 0,.int .u64 0,.int .u64 0,.int .u64 0,.int .u64 0,.int .u64 0,.int .u64 0,.int .u64 0,.int .u64 0,.int .u64 0,.int .u64 0,.int .u64 0,.int .u64 0,.int .u64 0,.int .u64 0,.int .u64 0,.int .u64 0,.int .u64 0,.int .u64 0,.int .u64 0,.int .u64 0,.int .u64 0,.int .u64 0,.int .u64 0,.int .u64 0,.int .u64 0,.int .u64 0,.int .u64 0,.int .u64 0,.int .u64 0,.int .u64 0,.int .u64 0,.int .u64 0,.int .u64 0,.int .u64 0,.int .u64 0,.int .u64 0,.int .u64 0,.int .u64 0,.int .u64 0,.int .u64 0,.int .u64 0,.int .u64 0,.int .u64 0,.int .u64 0,.int .u64 0,.int .u64 0,.int .u64 0,.int .u64 0]⟩:=Yas Tryz.underlying282 ⟨_,rfl,rfl⟩ (by kernel_rfl) rfl
theorem Tryz.ty287:TyOK Tryz.prog 287 ⟨.ptr 3,1,8,.pointer none⟩:=Yas Tryz.underlying287 rfl (by kernel_rfl) rfl
def Tryz.tabL:List (Option TyE):=[
 none,
 some ⟨.plain,1,8,.nilFunc⟩,
 none,
 some ⟨.int .i64,1,8,.int .i64 0⟩,
 some ⟨.plain,1,1,.bool false⟩,
 some ⟨.int .u8,1,1,.int .u8 0⟩,
 none,
 none,
 none,
 some ⟨.plain,1,16,.string ByteArray.empty⟩,
 none,
 none,
 none,
 none,
 none,
 none,
 none,
 none,
 none,
 none,
 some ⟨.plain,1,16,.nilIface⟩,
 none,
 some ⟨.slice 154,1,24,.slice none 0 0⟩,
 some ⟨.slice 3,1,24,.slice none 0 0⟩,
 some ⟨.slice 161,1,24,.slice none 0 0⟩,
 some ⟨.slice 164,1,24,.slice none 0 0⟩,
 none,
 some ⟨.strct [(0,22),(1,3),(2,23),(3,24),(4,25),(5,3)],6,112,.agg #[.slice none 0 0,.int .i64 0,.slice none 0 0,.slice none 0 0,.slice none 0 0,.int .i64 0]⟩,
 some ⟨.slice 89,1,24,.slice none 0 0⟩,
 none,
 some ⟨.strct [(0,23)],1,24,.agg #[.slice none 0 0]⟩,
 some ⟨.int .i64,1,8,.int .i64 0⟩,
 none,
 none,
 none,
 none,
 none,
 none,
 some ⟨.slice 63,1,24,.slice none 0 0⟩,
 none,
 none,
 none,
 none,
 none,
 none,
 some ⟨.array 2 23,2,48,.agg #[.slice none 0 0,.slice none 0 0]⟩,
 none,
 some ⟨.strct [(0,30),(1,30),(2,45)],4,96,.agg #[.slice none 0 0,.slice none 0 0,.slice none 0 0,.slice none 0 0]⟩,
 none,
 none,
 none,
 none,
 none,
 none,
 some ⟨.slice 5,1,24,.slice none 0 0⟩,
 none,
 none,
 none,
 none,
 none,
 none,
 some ⟨.int .i64,1,8,.int .i64 0⟩,
 none,
 some ⟨.strct [(0,61),(1,3)],2,16,.agg #[.int .i64 0,.int .i64 0]⟩,
 none,
 some ⟨.strct [(0,3),(1,3),(2,3),(3,3)],4,32,.agg #[.int .i64 0,.int .i64 0,.int .i64 0,.int .i64 0]⟩,
 none,
 none,
 none,
 none,
 none,
 none,
 none,
 none,
 none,
 none,
 none,
 none,
 none,
 none,
 none,
 none,
 none,
 none,
 none,
 none,
 some ⟨.ptr 93,1,8,.pointer none⟩,
 none,
 none,
 some ⟨.strct [(0,3),(1,38)],2,32,.agg #[.int .i64 0,.slice none 0 0]⟩,
 some ⟨.map 3 23,1,8,.map none⟩,
 some ⟨.slice 4,1,24,.slice none 0 0⟩,
 none,
 some ⟨.strct [(0,30),(1,27),(7,90),(8,91)],9,168,.agg #[.slice none 0 0,.slice none 0 0,.int .i64 0,.slice none 0 0,.slice none 0 0,.slice none 0 0,.int .i64 0,.map none,.slice none 0 0]⟩,
 none,
 none,
 none,
 none,
 some ⟨.plain,1,8,.nilFunc⟩,
 none,
 some ⟨.plain,1,8,.nilFunc⟩,
 none,
 none,
 none,
 none,
 none,
 none,
 some ⟨.plain,1,8,.nilFunc⟩,
 none,
 none,
 some ⟨.map 3 3,1,8,.map none⟩,
 none,
 none,
 none,
 none,
 none,
 none,
 none,
 none,
 none,
 none,
 none,
 none,
 none,
 none,
 none,
 none,
 none,
 some ⟨.slice 23,1,24,.slice none 0 0⟩,
 none,
 some ⟨.strct [(0,128),(1,23)],2,48,.agg #[.slice none 0 0,.slice none 0 0]⟩,
 none,
 none,
 none,
 none,
 none,
 none,
 none,
 some ⟨.plain,1,8,.nilFunc⟩,
 none,
 none,
 none,
 none,
 some ⟨.int .u64,1,8,.int .u64 0⟩,
 none,
 none,
 none,
 none,
 none,
 some ⟨.strct [(0,31)],1,8,.agg #[.int .i64 0]⟩,
 none,
 some ⟨.strct [(0,3),(1,3)],2,16,.agg #[.int .i64 0,.int .i64 0]⟩,
 some ⟨.slice 151,1,24,.slice none 0 0⟩,
 none,
 some ⟨.strct [(0,23),(1,23),(2,152)],3,72,.agg #[.slice none 0 0,.slice none 0 0,.slice none 0 0]⟩,
 some ⟨.int .i64,1,8,.int .i64 0⟩,
 some ⟨.int .i64,1,8,.int .i64 0⟩,
 some ⟨.slice 159,1,24,.slice none 0 0⟩,
 none,
 some ⟨.strct [(0,156),(1,3),(2,23),(3,3),(4,3),(5,157)],6,80,.agg #[.int .i64 0,.int .i64 0,.slice none 0 0,.int .i64 0,.int .i64 0,.slice none 0 0]⟩,
 none,
 some ⟨.strct [(0,155),(1,3),(2,159),(8,3)],9,104,.agg #[.int .i64 0,.int .i64 0,.int .i64 0,.int .i64 0,.slice none 0 0,.int .i64 0,.int .i64 0,.slice none 0 0,.int .i64 0]⟩,
 some ⟨.int .i64,1,8,.int .i64 0⟩,
 none,
 some ⟨.strct [(0,162),(1,3),(2,23)],3,40,.agg #[.int .i64 0,.int .i64 0,.slice none 0 0]⟩,
 none,
 some ⟨.map 3 4,1,8,.map none⟩,
 none,
 none,
 some ⟨.map 171 4,1,8,.map none⟩,
 some ⟨.slice 171,1,24,.slice none 0 0⟩,
 some ⟨.array 2 3,2,16,.agg #[.int .i64 0,.int .i64 0]⟩,
 none,
 none,
 none,
 none,
 none,
 none,
 none,
 none,
 none,
 none,
 none,
 none,
 none,
 none,
 some ⟨.plain,1,8,.nilFunc⟩,
 some ⟨.plain,1,8,.nilFunc⟩,
 none,
 some ⟨.ptr 216,1,8,.pointer none⟩,
 none,
 none,
 none,
 none,
 some ⟨.plain,1,8,.nilFunc⟩,
 none,
 none,
 none,
 none,
 none,
 none,
 none,
 none,
 none,
 some ⟨.strct [(0,3),(1,3)],2,16,.agg #[.int .i64 0,.int .i64 0]⟩,
 none,
 some ⟨.plain,1,16,.nilIface⟩,
 none,
 some ⟨.int .i64,1,8,.int .i64 0⟩,
 none,
 some ⟨.strct [],0,0,.agg #[]⟩,
 none,
 none,
 none,
 some ⟨.map 3 89,1,8,.map none⟩,
 none,
 some ⟨.strct [(0,27),(6,90),(7,214)],8,128,.agg #[.slice none 0 0,.int .i64 0,.slice none 0 0,.slice none 0 0,.slice none 0 0,.int .i64 0,.map none,.map none]⟩,
 none,
 none,
 none,
 some ⟨.plain,1,8,.nilFunc⟩,
 none,
 none,
 none,
 some ⟨.strct [],0,0,.agg #[]⟩,
 none,
 none,
 none,
 none,
 none,
 some ⟨.plain,1,8,.nilFunc⟩,
 some ⟨.ptr 282,1,8,.pointer none⟩,
 none,
 none,
 none,
 none,
 none,
 none,
 none,
 none,
 none,
 none,
 none,
 some ⟨.plain,1,8,.nilFunc⟩,
 none,
 none,
 none,
 none,
 some ⟨.plain,1,8,.nilFunc⟩,
 some ⟨.ptr 254,1,8,.pointer none⟩,
 none,
 none,
 some ⟨.slice 276,1,24,.slice none 0 0⟩,
 none,
 some ⟨.strct [(0,128),(1,252),(2,90)],3,56,.agg #[.slice none 0 0,.slice none 0 0,.map none]⟩,
 some ⟨.int .u32,1,4,.int .u32 0⟩,
 none,
 none,
 some ⟨.int .u64,1,8,.int .u64 0⟩,
 none,
 none,
 none,
 none,
 none,
 none,
 none,
 none,
 none,
 none,
 none,
 none,
 none,
 none,
 none,
 none,
 none,
 some ⟨.array 1 258,1,8,.agg #[.int .u64 0]⟩,
 none,
 none,
 some ⟨.int .u64,1,8,.int .u64 0⟩,
 some ⟨.array 63 279,63,504,.agg #[.int .u64 0,.int .u64 0,.int .u64 0,.int .u64 0,.int .u64 0,.int .u64 0,.int .u64 0,.int .u64 0,.int .u64 0,.int .u64 0,.int .u64 0,.int .u64 0,.int .u64 0,.int .u64 0,.int .u64 0,.int .u64 0,.int .u64 0,.int .u64 0,.int .u64 0,.int .u64 0,.int .u64 0,.int .u64 0,.int .u64 0,.int .u64 0,.int .u64 0,.int .u64 0,.int .u64 0,.int .u64 0,.int .u64 0,.int .u64 0,.int .u64 0,.int .u64 0,.int .u64 0,.int .u64 0,.int .u64 0,.int .u64 0,.int .u64 0,.int .u64 0,.int .u64 0,.int .u64 0,.int .u64 0,.int .u64 0,.int .u64 0,.int .u64 0,.int .u64 0,.int .u64 0,.int .u64 0,.int .u64 0,.int .u64 0,.int .u64 0,.int .u64 0,.int .u64 0,.int .u64 0,.int .u64 0,.int .u64 0,.int .u64 0,.int .u64 0,.int .u64 0,.int .u64 0,.int .u64 0,.int .u64 0,.int .u64 0,.int .u64 0]⟩,
 none,
 some ⟨.strct [(0,130),(2,280)],65,552,.agg #[.slice none 0 0,.slice none 0 0,.int .u64 0,.int .u64 0,.int .u64 0,.int .u64 0,.int .u64 0,.int .u64 0,.int .u64 0,.int .u64 0,.int .u64 0,.int .u64 0,.int .u64 0,.int .u64 0,.int .u64 0,.int .u64 0,.int .u64 0,.int .u64 0,.int .u64 0,.int .u64 0,.int .u64 0,.int .u64 0,.int .u64 0,.int .u64 0,.int .u64 0,.int .u64 0,.int .u64 0,.int .u64 0,.int .u64 0,.int .u64 0,.int .u64 0,.int .u64 0,.int .u64 0,.int .u64 0,.int .u64 0,.int .u64 0,.int .u64 0,.int .u64 0,.int .u64 0,.int .u64 0,.int .u64 0,.int .u64 0,.int .u64 0,.int .u64 0,.int .u64 0,.int .u64 0,.int .u64 0,.int .u64 0,.int .u64 0,.int .u64 0,.int .u64 0,.int .u64 0,.int .u64 0,.int .u64 0,.int .u64 0,.int .u64 0,.int .u64 0,.int .u64 0,.int .u64 0,.int .u64 0,.int .u64 0,.int .u64 0,.int .u64 0,.int .u64 0,.int .u64 0]⟩,
 none,
 none,
 none,
 none,
 some ⟨.ptr 3,1,8,.pointer none⟩]
def Tryz.tab:Tab:=fun t=>Yqz Tryz.tabL t
set_option maxRecDepth 100000 in
theorem Tryz.tabOK:YaX Tryz.prog Tryz.tab:=Yo4 (L:=Tryz.tabL) ⟨Tryz.ty1,Tryz.ty3,Tryz.ty4,Tryz.ty5,Tryz.ty9,Tryz.ty20,Tryz.ty22,Tryz.ty23,Tryz.ty24,Tryz.ty25,Tryz.ty27,Tryz.ty28,Tryz.ty30,Tryz.ty31,Tryz.ty38,Tryz.ty45,Tryz.ty47,Tryz.ty54,Tryz.ty61,Tryz.ty63,Tryz.ty65,Tryz.ty86,Tryz.ty89,Tryz.ty90,Tryz.ty91,Tryz.ty93,Tryz.ty98,Tryz.ty100,Tryz.ty107,Tryz.ty110,Tryz.ty128,Tryz.ty130,Tryz.ty138,Tryz.ty143,Tryz.ty149,Tryz.ty151,Tryz.ty152,Tryz.ty154,Tryz.ty155,Tryz.ty156,Tryz.ty157,Tryz.ty159,Tryz.ty161,Tryz.ty162,Tryz.ty164,Tryz.ty166,Tryz.ty169,Tryz.ty170,Tryz.ty171,Tryz.ty186,Tryz.ty187,Tryz.ty189,Tryz.ty194,Tryz.ty204,Tryz.ty206,Tryz.ty208,Tryz.ty210,Tryz.ty214,Tryz.ty216,Tryz.ty220,Tryz.ty224,Tryz.ty230,Tryz.ty231,Tryz.ty243,Tryz.ty248,Tryz.ty249,Tryz.ty252,Tryz.ty254,Tryz.ty255,Tryz.ty258,Tryz.ty276,Tryz.ty279,Tryz.ty280,Tryz.ty282,Tryz.ty287,trivial⟩
abbrev Tc.int:Nat:=3
abbrev Tc.bool:Nat:=4
theorem Tryz.mixed : Tryz.prog.follows .mixedOrders = true := by kernel_rfl
open Go Go.W Go.V
theorem Se {f:Nat} {fn:Func} {c:Code} {us:List AV} {r:AV} {N:Nat} {η η':Eta} (hf:Tryz.prog.funcs[f]?=some fn) (hb:fn.body=some c) (hN:fn.ntmps=N) (ha:Nat.ble us.length N=true)
  (h:∀ B (hB:B.γ.length=η.length),TC ⟨Tryz.prog,Tryz.tab,Tryz.tabOK,Tryz.mixed,N,[],B,η.length,hB,none,0⟩ (bodyPost Tryz.prog fn (YbF B r η')) c (Ym3 0 us) η):V.Spec Tryz.prog f us η r η':=V.Spec.enter Tryz.tabOK Tryz.mixed hf hb hN ha h
theorem YgV (l:List Int) (n:Int):V.Spec Tryz.prog 181 [ints l,V.int n] [] (V.bool (l.contains n)) []:=by
 refine Se Tryz.func181 rfl rfl rfl fun B hB=>?_;refine ZaS 0 fun hl=>?_;refine go ?_;refine Zat (fun k:Nat=>[(0,ints l),(1,V.int n),(5,V.int k)]) (fun _=>[]) (fun k=>k≤l.length∧l.contains n=(l.drop k).contains n) (fun k=>l.length-k) 0 [] ⟨Nat.zero_le _,rfl⟩ ?_;rintro k ⟨hk,hinv⟩;repeat' (with_reducible first|refine OL.st ?_|refine TC.region ?_|refine TC.seq ?_|refine OL.nil ?_|refine Zap ?_|refine TC.block ?_|refine TC.skip ?_|refine ZaM ?_|refine TC.exit ?_|refine Za3 ?_|refine Za2 ?_|refine Zay ?_ ?_<;>(intro hc;try (exfalso;omega))|refine TC.ret ?_|refine ZaE ?_|refine ZaK ?_|fail)
 ·refine Zad [] (.bool ?_);rw [hinv,Yac (by omega),hc];simp
 ·refine Zan (k+1) [] ⟨by omega,?_⟩ (by omega);rw [hinv,Yac (by omega)];have:(n==l[k])=false:=by simp;exact fun e=>hc e.symm
  rw [List.contains_cons,this,Bool.false_or]
 ·refine Zad [] (.bool ?_);rw [hinv,Yat (by omega)];rfl
def Yf3 (g:List (List Int)) (c:Int):Bool:=decide (0≤c)&&decide (c < 3+(g.length:Int))
theorem YgU (g:List (List Int)) (c:Int) (_h0:0≤c) (h1:c < 3+(g.length:Int)) (hb:g.length≤1000000000):V.Spec Tryz.prog 226 [YbU g,V.int c] [] (ints (pOf g c)) []:=by
 refine Se Tryz.func226 rfl rfl rfl fun B hB=>?_;(refine goS ?_ ?_<;>intro hc<;>refine go ?_)
 ·rw [pOf,if_pos (by omega)];exact Zad [] (.nil (by decide))
 ·rw [pOf,if_neg (by omega),Yai (by omega)];exact Zad [] (.ren rfl)
theorem YdW (l:List Int) (n:Int) (hb:l.length≤1000000000):V.Spec Tryz.prog 227 [ints l,V.int n] [] (.hs 0) [.gs false 3 1 none ((without l n).map V.int)]:=by
 refine Se Tryz.func227 rfl rfl rfl fun B hB=>?_;refine go ?_;refine ZaT 5 3 1 ?_;refine Zat (fun k:Nat=>[(0,ints l),(1,V.int n),(5,.hs 0),(6,V.int k)]) (fun k=>[.gs false 3 1 none ((without (l.take k) n).map V.int)]) (fun k=>k≤l.length) (fun k=>l.length-k) 0 [0] (Nat.zero_le _) ?_;rintro k hk;have hfl:(without (l.take k) n).length≤l.length:=Nat.le_trans (List.length_filter_le _ _) (by simp;omega);repeat' (with_reducible first|refine OL.st ?_|refine OL.lit ?_|refine ZaH ?_|refine TC.region ?_|refine TC.seq ?_|refine OL.nil ?_|refine Zap ?_|refine TC.block ?_|refine TC.skip ?_|refine ZaM ?_|refine TC.exit ?_|refine Za3 ?_|refine Za2 ?_|refine Zay ?_ ?_<;>(intro hc;try (exfalso;omega))|refine TC.ret ?_|fail)
 ·refine ZcS (η':=[.dead,.dead,.gs false 3 1 none ((without (l.take (k+1)) n).map V.int)]) ?_ ?_
  ·rw [without,without,Yfd (by omega) (by simpa using hc)];simp
  ·exact Zan (k+1) [2] (by omega) (by omega)
 ·refine ZcS (η':=[.gs false 3 1 none ((without (l.take (k+1)) n).map V.int)]) ?_ ?_
  ·rw [without,without,Yfh (by omega) (by simpa using hc)]
  ·exact Zan (k+1) [0] (by omega) (by omega)
 ·rw [Yaf (by omega)];exact Zad [0] (.ren rfl)
theorem Ykw (all:List (List Int)) (c:Int):V.Spec Tryz.prog 228 [YbU all,V.int c] [] (V.bool (free all c)) []:=by
 refine Se Tryz.func228 rfl rfl rfl fun B hB=>?_;refine ZaS 0 fun hl=>?_;refine go ?_;refine Zat (fun k:Nat=>[(0,YbU all),(1,V.int c),(5,V.int k)]) (fun _=>[]) (fun k=>k≤all.length∧free all c=free (all.drop k) c) (fun k=>all.length-k) 0 [] ⟨Nat.zero_le _,rfl⟩ ?_;rintro k ⟨hk,hinv⟩;repeat' (with_reducible first|refine OL.st ?_|refine TC.region ?_|refine TC.seq ?_|refine OL.nil ?_|refine Zap ?_|refine TC.block ?_|refine TC.skip ?_|refine ZaM ?_|refine TC.exit ?_|refine Za3 ?_|refine Za2 ?_|refine Za9 ?_|refine ZaB ?_|refine ZaD ?_|refine Zay ?_ ?_<;>(intro hc;try (exfalso;omega))|refine Zaz ?_ ?_<;>(intro hc;try (exfalso;omega))|refine TC.ret ?_|fail)
 ·refine OL.c (YgV (all[k].drop 1) c) Tryz.func181 ?_;refine go ?_;refine Zbl (fun hct=>?_) (fun hct=>?_)
  ·refine go ?_;refine Zad [] (.bool ?_);rw [hinv,Yac (by omega)];simp only [free,List.all_cons,hct,Bool.not_true,Bool.false_and]
  ·refine go ?_;refine Zan (k+1) [] ⟨by omega,?_⟩ (by omega);rw [hinv,Yac (by omega)];simp only [free,List.all_cons,hct,Bool.not_false,Bool.true_and]
 ·refine Zan (k+1) [] ⟨by omega,?_⟩ (by omega);rw [hinv,Yac (by omega)];have:all[k]=[]:=List.eq_nil_of_length_eq_zero (by omega)
  simp [free,this]
 ·refine Zad [] (.bool ?_);rw [hinv,Yat (by omega)];rfl
theorem YaO (l:List Int) (n:Int):V.Spec Tryz.prog 104 [ints l,V.int n] [] (V.int (Yb3 (fun x=>n==x) 0 l)) []:=by
 refine Se Tryz.func104 rfl rfl rfl fun B hB=>?_;refine ZaS 0 fun hl=>?_;refine go ?_;refine Zat (fun k:Nat=>[(0,ints l),(1,V.int n),(7,V.int l.length),(8,V.int k)]) (fun _=>[]) (fun k=>k≤l.length∧Yb3 (fun x=>n==x) 0 l=Yb3 (fun x=>n==x) k (l.drop k)) (fun k=>l.length-k) 0 [] ⟨Nat.zero_le _,rfl⟩ ?_;rintro k ⟨hk,hinv⟩;repeat' (with_reducible first|refine OL.st ?_|refine TC.region ?_|refine TC.seq ?_|refine OL.nil ?_|refine Zap ?_|refine TC.block ?_|refine TC.skip ?_|refine ZaM ?_|refine TC.exit ?_|refine Za3 ?_|refine Za2 ?_|refine Zay ?_ ?_<;>(intro hc;try (exfalso;omega))|refine TC.ret ?_|refine ZaE ?_|refine ZaK ?_|fail)
 ·refine Zad [] (.int ?_);rw [hinv,Yac (by omega)];simp [Yb3,← hc]
 ·refine Zan (k+1) [] ⟨by omega,?_⟩ (by omega);rw [hinv,Yac (by omega)];simp [Yb3,hc]
 ·refine Zad [] (.int ?_);rw [hinv,Yat (by omega)];rfl
theorem Yav (l:List Int) (n:Int):V.Spec Tryz.prog 172 [ints l,V.int n] [] (V.bool (l.contains n)) []:=by
 refine Se Tryz.func172 rfl rfl rfl fun B hB=>?_;refine go ?_;refine OL.c (YaO l n) Tryz.func104 ?_;refine go ?_;refine Zad [] (.bool ?_);rw [← YgI]
 cases h:l.any fun x=>n==x
 ·rw [decide_eq_false];intro h';rw [(Ya7 _ _ _).1 h'] at h;cases h
 ·exact decide_eq_true ((Ya7 _ _ _).2 h)
theorem YcM (l:List (Int)) (p:Int→Bool):V.Spec Tryz.prog 260 [.sl 1 none (l.map V.int),Ye8 Tryz.prog V.int (·∈l) p] [] (V.int (Yb3 p 0 l)) []:=by
 refine Se Tryz.func260 rfl rfl rfl fun B hB=>?_;refine ZaS 0 fun hl=>?_;refine go ?_;refine Zat (fun k:Nat=>[(0,.sl 1 none (l.map V.int)),(1,Ye8 Tryz.prog V.int (·∈l) p),(7,V.int l.length),(8,V.int k)]) (fun _=>[]) (fun k=>k≤l.length∧Yb3 p 0 l=Yb3 p k (l.drop k)) (fun k=>l.length-k) 0 [] ⟨Nat.zero_le _,rfl⟩ ?_;rintro k ⟨hk,hinv⟩;(refine goS ?_ ?_<;>intro hc<;>refine go ?_)
 ·refine Zbm l[k] (List.getElem_mem _) ?_;refine go ?_;refine Zbl (fun hp=>?_) (fun hp=>?_)
  ·refine go ?_;refine Zad [] (.int ?_);rw [hinv,Yac (by omega)];simp [Yb3,hp]
  ·refine go ?_;refine Zan (k+1) [] ⟨by omega,?_⟩ (by omega);rw [hinv,Yac (by omega)];simp [Yb3,hp]
 ·refine Zad [] (.int ?_);rw [hinv,Yat (by omega)];rfl
theorem Ycv (l:List (Int)) (p:Int→Bool):V.Spec Tryz.prog 247 [.sl 1 none (l.map V.int),Ye8 Tryz.prog V.int (·∈l) p] [] (V.bool (l.any p)) []:=by
 refine Se Tryz.func247 rfl rfl rfl fun B hB=>?_;refine go ?_;refine OL.c (YcM l p) Tryz.func260 ?_;refine go ?_;refine Zad [] (.bool ?_)
 cases h:l.any p
 ·rw [decide_eq_false];intro h';rw [(Ya7 _ _ _).1 h'] at h;cases h
 ·exact decide_eq_true ((Ya7 _ _ _).2 h)
theorem YdK (l:List Int) (p:Int→Bool) (hb:l.length≤1000000000):V.Spec Tryz.prog 258 [ints l,YoH Tryz.prog (·∈l) p] [] (.hs 0) [.gs false 3 1 none ((l.filter p).map V.int)]:=by
 refine Se Tryz.func258 rfl rfl rfl fun B hB=>?_;refine go ?_;refine ZaT 5 3 1 ?_;refine Zat (fun k:Nat=>[(1,YoH Tryz.prog (·∈l) p),(5,.hs 0),(8,ints l),(9,V.int l.length),(10,V.int k)]) (fun k=>[.gs false 3 1 none (((l.take k).filter p).map V.int)]) (fun k=>k≤l.length) (fun k=>l.length-k) 0 [0] (Nat.zero_le _) ?_;rintro k hk;have hfl:((l.take k).filter p).length≤l.length:=Nat.le_trans (List.length_filter_le _ _) (by simp;omega);(refine goS ?_ ?_<;>intro hc<;>refine go ?_)
 ·refine Zbm l[k] (List.getElem_mem _) ?_;refine go ?_;refine Zbl (fun hp=>?_) (fun hp=>?_)
  ·refine go ?_;have e:((l.take k).filter p).map V.int++[V.int l[k]]=((l.take (k+1)).filter p).map V.int:=by rw [Yfd (by omega) hp];simp
   exact Zan (k+1) [2] (by omega) (by omega)
  ·refine go ?_;have e:((l.take k).filter p).map V.int=((l.take (k+1)).filter p).map V.int:=by rw [Yfh (by omega) hp]
   exact Zan (k+1) [0] (by omega) (by omega)
 ·rw [Yaf (by omega)];exact Zad [0] (.ren rfl)
abbrev YhF (p:Int × Int):AV:=.st [V.int p.1,V.int p.2]
abbrev Yde (l:List (Int × Int)):AV:=.sl 2 none (l.map YhF)
abbrev Cls:=List Int × List Int × List (Int × Int)
abbrev YvC (c:Cls):AV:=.st [ints c.1,ints c.2.1,Yde c.2.2]
abbrev Yei (l:List Cls):AV:=.sl 3 none (l.map YvC)
abbrev graphOf (l:List Cls):List (List Int):=l.map (·.1)
def YdE:List Int→Int→Int→Int
 | [],_,_=>-1
 | x::r,n,k=>if x=n then k else YdE r n (k+1)
abbrev Nd:=Int × Int × List Int
abbrev ndA (x:Nd):AV:=.st [V.int x.1,V.int x.2.1,ints x.2.2]
abbrev Yvx (l:List Nd):AV:=.sl 3 none (l.map ndA)
inductive Fct where
 | mk (op arg:Int) (path:List Int) (cls n:Int) (kids:List Fct)
mutual
def Yld:Fct→AV
 | .mk op arg path cls n kids=>.st [V.int op,V.int arg,ints path,V.int cls,V.int n,.sl 6 none (YmR kids)]
def YmR:List Fct→List AV
 | []=>[]
 | f::r=>Yld f::YmR r
end
theorem Yok (l:List Fct):YmR l=l.map Yld:=by
 induction l with
 | nil=>rfl
 | cons f r ih=>rw [YmR,ih];rfl
structure Mth where
 kind:Int
 gen:Int
 fact:Fct
 node:Int
def YuR (x:Mth):AV:=.st ([V.int x.kind,V.int x.gen]++(Yld x.fact).cells++[V.int x.node])
abbrev YpH (l:List Mth):AV:=.sl 9 none (l.map YuR)
structure Prg where
 cls:List Cls
 slots:Int
 gens:List Int
 mths:List Mth
 nodes:List Nd
 main:Int
abbrev YbB (p:Prg):List AV:=[Yei p.cls,V.int p.slots,ints p.gens,YpH p.mths,Yvx p.nodes,V.int p.main]
abbrev Ya0 (p:Prg):AV:=.st (YbB p)
/-! ## The small functions -/
def YaE (n:Int):Bool:=decide (-1000000000≤n)&&decide (n≤1000000000)
theorem Yek (n:Int):V.Spec Tryz.prog 190 [V.int n] [] (V.bool (YaE n)) []:=by
 refine Se Tryz.func190 rfl rfl rfl fun B hB=>?_;(refine YnB ?_ ?_<;>intro hc<;>refine goW ?_)
 ·rw [show YaE n=decide (n≤1000000000) by simp [YaE,hc]];exact Zad [] (.ren rfl)
 ·rw [show YaE n=false by simp [YaE,hc]];exact Zad [] (.ren rfl)
theorem Yan (k:Int) (p:Prg) (x:Nd):V.Spec Tryz.prog 279 [V.int k,Ya0 p,ndA x] [] (V.int k) []:=by
 refine Se Tryz.func279 rfl rfl rfl fun B hB=>?_;refine goW ?_;exact Zad [] (.ren rfl)
theorem Yae (p:Prg) (x:Nd) (h0:0≤x.2.1) (h1:x.2.1 < p.gens.length):V.Spec Tryz.prog 280 [.st [],Ya0 p,ndA x] [] (V.int (p.gens[x.2.1.toNat]'(by omega))) []:=by
 refine Se Tryz.func280 rfl rfl rfl fun B hB=>?_;refine goW ?_;exact Zad [] (.ren rfl)
def mostV (p:Prg) (x:Nd) (size:Int):Int:=if x.1=3 then size else if x.1=4∨x.1=7 then p.slots else if x.1=5 then p.gens.length else 1
def YbE (p:Prg) (x:Nd) (size:Int):Bool:=
 if x.1=1 then YaE x.2.1 else if x.1=6∨x.1=8 then decide (3≤x.2.1)&&decide (x.2.1 < 3+p.cls.length) else decide (0≤x.2.1)&&decide (x.2.1 < mostV p x size)
set_option maxHeartbeats 2000000 in
theorem Yj6 (p:Prg) (x:Nd) (size:Int) (hc:p.cls.length < 1000000000):V.Spec Tryz.prog 167 [Ya0 p,ndA x,V.int size] [] (V.bool (YbE p x size)) []:=by
 obtain ⟨op,n,kids⟩:=x;refine Se Tryz.func167 rfl rfl rfl fun B hB=>?_;repeat' (with_reducible first|refine OL.st ?_|refine OL.box ?_|refine TC.region ?_|refine TC.seq ?_|refine OL.nil ?_|refine Zap ?_|refine TC.block ?_|refine TC.skip ?_|refine ZaM ?_|refine ZaB ?_|refine ZaD ?_|refine Zay ?_ ?_<;>(intro hc;try (exfalso;omega))|refine Zaz ?_ ?_<;>(intro hc;try (exfalso;omega))|refine TC.ret ?_|refine ZaE ?_|refine ZaK ?_|fail)
 ·refine OL.c (Yek n) Tryz.func190 ?_;refine goW ?_;refine Zad [] (LE.bool ?_);simp [YbE, *]
 all_goals
  refine Zad [] (LE.bool ?_);simp [YbE,mostV, *]
end Go.Proofs
