/- Part 16 of what the claim is proved by: lemmas on the model and walks through functions of the program; no conditions. -/
import Derived.Test.YtmdpbfghjdljiaaGreatV6
import Derived.Test.YtmdpbfghjdljiaaGreatProg
import Derived.OwnWalk
import Derived.KernelRfl
import Derived.Test.YtmdpbfghjdljiaaGreatV9
import Derived.Test.YtmdpbfghjdljiaaGreatV11
namespace Go.Proofs
open Go Go.V
theorem tyRow {P : Program} {t size bytes : Nat} {d : TypeDesc} {sh : Sh} {z : Value} (hu : P.underlying t = some d) (hs : ShOK d sh) (h : (P.info? t).map (fun i => (i.zero, i.size, i.bytes)) = some (some z, size, bytes)) (hz : z.cells.size = size) : TyOK P t ⟨sh, size, bytes, z⟩ := ⟨⟨d, hu, hs⟩, by
  obtain ⟨i0, hi, hz0, hs0, hb0⟩ := info_parts h
  exact ⟨i0, hi, hs0, hb0, hz0, hz⟩⟩
theorem Tryz.ty3 : TyOK Tryz.prog 3 ⟨.int .i64, 1, 8, .int .i64 0⟩ := tyRow Tryz.underlying3 rfl (by kernel_rfl) rfl
theorem Tryz.ty4 : TyOK Tryz.prog 4 ⟨.plain, 1, 1, .bool false⟩ := tyRow Tryz.underlying4 ⟨nofun, nofun⟩ (by kernel_rfl) rfl
theorem Tryz.ty9 : TyOK Tryz.prog 9 ⟨.plain, 1, 16, .string ByteArray.empty⟩ := tyRow Tryz.underlying9 ⟨nofun, nofun⟩ (by kernel_rfl) rfl
theorem Tryz.ty22 : TyOK Tryz.prog 22 ⟨.slice 59, 1, 24, .slice none 0 0⟩ := tyRow Tryz.underlying22 rfl (by kernel_rfl) rfl
theorem Tryz.ty23 : TyOK Tryz.prog 23 ⟨.slice 58, 1, 24, .slice none 0 0⟩ := tyRow Tryz.underlying23 rfl (by kernel_rfl) rfl
theorem Tryz.ty25 : TyOK Tryz.prog 25 ⟨.strct [(0, 4), (1, 22), (2, 23)], 3, 56, .agg #[.bool false, .slice none 0 0, .slice none 0 0]⟩ := tyRow Tryz.underlying25 ⟨_, rfl, rfl⟩ (by kernel_rfl) rfl
theorem Tryz.ty26 : TyOK Tryz.prog 26 ⟨.slice 41, 1, 24, .slice none 0 0⟩ := tyRow Tryz.underlying26 rfl (by kernel_rfl) rfl
theorem Tryz.ty28 : TyOK Tryz.prog 28 ⟨.strct [(0, 25), (3, 26), (4, 3), (5, 3), (6, 3), (7, 3)], 8, 112, .agg #[.bool false, .slice none 0 0, .slice none 0 0, .slice none 0 0, .int .i64 0, .int .i64 0, .int .i64 0, .int .i64 0]⟩ := tyRow Tryz.underlying28 ⟨_, rfl, rfl⟩ (by kernel_rfl) rfl
theorem Tryz.ty29 : TyOK Tryz.prog 29 ⟨.int .i64, 1, 8, .int .i64 0⟩ := tyRow Tryz.underlying29 rfl (by kernel_rfl) rfl
theorem Tryz.ty31 : TyOK Tryz.prog 31 ⟨.strct [(0, 29), (1, 3)], 2, 16, .agg #[.int .i64 0, .int .i64 0]⟩ := tyRow Tryz.underlying31 ⟨_, rfl, rfl⟩ (by kernel_rfl) rfl
theorem Tryz.ty32 : TyOK Tryz.prog 32 ⟨.int .i64, 1, 8, .int .i64 0⟩ := tyRow Tryz.underlying32 rfl (by kernel_rfl) rfl
theorem Tryz.ty35 : TyOK Tryz.prog 35 ⟨.int .i64, 1, 8, .int .i64 0⟩ := tyRow Tryz.underlying35 rfl (by kernel_rfl) rfl
theorem Tryz.ty36 : TyOK Tryz.prog 36 ⟨.slice 3, 1, 24, .slice none 0 0⟩ := tyRow Tryz.underlying36 rfl (by kernel_rfl) rfl
theorem Tryz.ty37 : TyOK Tryz.prog 37 ⟨.slice 115, 1, 24, .slice none 0 0⟩ := tyRow Tryz.underlying37 rfl (by kernel_rfl) rfl
theorem Tryz.ty39 : TyOK Tryz.prog 39 ⟨.strct [(0, 36), (1, 36), (2, 37)], 3, 72, .agg #[.slice none 0 0, .slice none 0 0, .slice none 0 0]⟩ := tyRow Tryz.underlying39 ⟨_, rfl, rfl⟩ (by kernel_rfl) rfl
theorem Tryz.ty41 : TyOK Tryz.prog 41 ⟨.strct [(0, 35), (1, 3), (2, 3), (3, 3), (4, 31), (6, 39)], 9, 120, .agg #[.int .i64 0, .int .i64 0, .int .i64 0, .int .i64 0, .int .i64 0, .int .i64 0, .slice none 0 0, .slice none 0 0, .slice none 0 0]⟩ := tyRow Tryz.underlying41 ⟨_, rfl, rfl⟩ (by kernel_rfl) rfl
theorem Tryz.ty45 : TyOK Tryz.prog 45 ⟨.slice 31, 1, 24, .slice none 0 0⟩ := tyRow Tryz.underlying45 rfl (by kernel_rfl) rfl
theorem Tryz.ty46 : TyOK Tryz.prog 46 ⟨.slice 32, 1, 24, .slice none 0 0⟩ := tyRow Tryz.underlying46 rfl (by kernel_rfl) rfl
theorem Tryz.ty51 : TyOK Tryz.prog 51 ⟨.slice 78, 1, 24, .slice none 0 0⟩ := tyRow Tryz.underlying51 rfl (by kernel_rfl) rfl
theorem Tryz.ty56 : TyOK Tryz.prog 56 ⟨.plain, 1, 8, .nilFunc⟩ := tyRow Tryz.underlying56 ⟨nofun, nofun⟩ (by kernel_rfl) rfl
theorem Tryz.ty58 : TyOK Tryz.prog 58 ⟨.strct [(0, 3), (1, 3), (2, 45)], 3, 40, .agg #[.int .i64 0, .int .i64 0, .slice none 0 0]⟩ := tyRow Tryz.underlying58 ⟨_, rfl, rfl⟩ (by kernel_rfl) rfl
theorem Tryz.ty59 : TyOK Tryz.prog 59 ⟨.slice 39, 1, 24, .slice none 0 0⟩ := tyRow Tryz.underlying59 rfl (by kernel_rfl) rfl
theorem Tryz.ty78 : TyOK Tryz.prog 78 ⟨.strct [(0, 3), (1, 3), (2, 31)], 4, 32, .agg #[.int .i64 0, .int .i64 0, .int .i64 0, .int .i64 0]⟩ := tyRow Tryz.underlying78 ⟨_, rfl, rfl⟩ (by kernel_rfl) rfl
theorem Tryz.ty85 : TyOK Tryz.prog 85 ⟨.plain, 1, 8, .nilFunc⟩ := tyRow Tryz.underlying85 ⟨nofun, nofun⟩ (by kernel_rfl) rfl
theorem Tryz.ty105 : TyOK Tryz.prog 105 ⟨.ptr 140, 1, 8, .pointer none⟩ := tyRow Tryz.underlying105 rfl (by kernel_rfl) rfl
theorem Tryz.ty115 : TyOK Tryz.prog 115 ⟨.strct [(0, 3), (1, 3)], 2, 16, .agg #[.int .i64 0, .int .i64 0]⟩ := tyRow Tryz.underlying115 ⟨_, rfl, rfl⟩ (by kernel_rfl) rfl
theorem Tryz.ty116 : TyOK Tryz.prog 116 ⟨.slice 119, 1, 24, .slice none 0 0⟩ := tyRow Tryz.underlying116 rfl (by kernel_rfl) rfl
theorem Tryz.ty119 : TyOK Tryz.prog 119 ⟨.ptr 169, 1, 8, .pointer none⟩ := tyRow Tryz.underlying119 rfl (by kernel_rfl) rfl
theorem Tryz.ty120 : TyOK Tryz.prog 120 ⟨.plain, 1, 8, .nilFunc⟩ := tyRow Tryz.underlying120 ⟨nofun, nofun⟩ (by kernel_rfl) rfl
theorem Tryz.ty123 : TyOK Tryz.prog 123 ⟨.plain, 1, 8, .nilFunc⟩ := tyRow Tryz.underlying123 ⟨nofun, nofun⟩ (by kernel_rfl) rfl
theorem Tryz.ty125 : TyOK Tryz.prog 125 ⟨.plain, 1, 8, .nilFunc⟩ := tyRow Tryz.underlying125 ⟨nofun, nofun⟩ (by kernel_rfl) rfl
theorem Tryz.ty130 : TyOK Tryz.prog 130 ⟨.slice 36, 1, 24, .slice none 0 0⟩ := tyRow Tryz.underlying130 rfl (by kernel_rfl) rfl
theorem Tryz.ty136 : TyOK Tryz.prog 136 ⟨.plain, 1, 8, .nilFunc⟩ := tyRow Tryz.underlying136 ⟨nofun, nofun⟩ (by kernel_rfl) rfl
theorem Tryz.ty140 : TyOK Tryz.prog 140 ⟨.strct [(0, 4), (1, 116), (2, 23)], 3, 56, .agg #[.bool false, .slice none 0 0, .slice none 0 0]⟩ := tyRow Tryz.underlying140 ⟨_, rfl, rfl⟩ (by kernel_rfl) rfl
theorem Tryz.ty159 : TyOK Tryz.prog 159 ⟨.plain, 1, 8, .nilFunc⟩ := tyRow Tryz.underlying159 ⟨nofun, nofun⟩ (by kernel_rfl) rfl
theorem Tryz.ty160 : TyOK Tryz.prog 160 ⟨.plain, 1, 8, .nilFunc⟩ := tyRow Tryz.underlying160 ⟨nofun, nofun⟩ (by kernel_rfl) rfl
theorem Tryz.ty161 : TyOK Tryz.prog 161 ⟨.plain, 1, 8, .nilFunc⟩ := tyRow Tryz.underlying161 ⟨nofun, nofun⟩ (by kernel_rfl) rfl
theorem Tryz.ty163 : TyOK Tryz.prog 163 ⟨.strct [(0, 160), (1, 161)], 2, 16, .agg #[.nilFunc, .nilFunc]⟩ := tyRow Tryz.underlying163 ⟨_, rfl, rfl⟩ (by kernel_rfl) rfl
theorem Tryz.ty165 : TyOK Tryz.prog 165 ⟨.map 35 163, 1, 8, .map none⟩ := tyRow Tryz.underlying165 rfl (by kernel_rfl) rfl
theorem Tryz.ty167 : TyOK Tryz.prog 167 ⟨.slice 39, 1, 24, .slice none 0 0⟩ := tyRow Tryz.underlying167 rfl (by kernel_rfl) rfl
theorem Tryz.ty169 : TyOK Tryz.prog 169 ⟨.strct [(0, 167), (1, 130), (2, 130)], 3, 72, .agg #[.slice none 0 0, .slice none 0 0, .slice none 0 0]⟩ := tyRow Tryz.underlying169 ⟨_, rfl, rfl⟩ (by kernel_rfl) rfl
theorem Tryz.ty173 : TyOK Tryz.prog 173 ⟨.plain, 1, 8, .nilFunc⟩ := tyRow Tryz.underlying173 ⟨nofun, nofun⟩ (by kernel_rfl) rfl
theorem Tryz.ty174 : TyOK Tryz.prog 174 ⟨.array 19 4, 19, 19, .agg #[.bool false, .bool false, .bool false, .bool false, .bool false, .bool false, .bool false, .bool false, .bool false, .bool false, .bool false, .bool false, .bool false, .bool false, .bool false, .bool false, .bool false, .bool false, .bool false]⟩ := tyRow Tryz.underlying174 rfl (by kernel_rfl) rfl
theorem Tryz.ty185 : TyOK Tryz.prog 185 ⟨.plain, 1, 8, .nilFunc⟩ := tyRow Tryz.underlying185 ⟨nofun, nofun⟩ (by kernel_rfl) rfl
theorem Tryz.ty208 : TyOK Tryz.prog 208 ⟨.map 3 36, 1, 8, .map none⟩ := tyRow Tryz.underlying208 rfl (by kernel_rfl) rfl
theorem Tryz.ty224 : TyOK Tryz.prog 224 ⟨.ptr 229, 1, 8, .pointer none⟩ := tyRow Tryz.underlying224 rfl (by kernel_rfl) rfl
theorem Tryz.ty227 : TyOK Tryz.prog 227 ⟨.slice 281, 1, 24, .slice none 0 0⟩ := tyRow Tryz.underlying227 rfl (by kernel_rfl) rfl
theorem Tryz.ty229 : TyOK Tryz.prog 229 ⟨.strct [(0, 130), (1, 227), (2, 208)], 3, 56, .agg #[.slice none 0 0, .slice none 0 0, .map none]⟩ := tyRow Tryz.underlying229 ⟨_, rfl, rfl⟩ (by kernel_rfl) rfl
theorem Tryz.ty232 : TyOK Tryz.prog 232 ⟨.plain, 1, 8, .nilFunc⟩ := tyRow Tryz.underlying232 ⟨nofun, nofun⟩ (by kernel_rfl) rfl
theorem Tryz.ty237 : TyOK Tryz.prog 237 ⟨.int .u64, 1, 8, .int .u64 0⟩ := tyRow Tryz.underlying237 rfl (by kernel_rfl) rfl
theorem Tryz.ty239 : TyOK Tryz.prog 239 ⟨.plain, 1, 8, .nilFunc⟩ := tyRow Tryz.underlying239 ⟨nofun, nofun⟩ (by kernel_rfl) rfl
theorem Tryz.ty279 : TyOK Tryz.prog 279 ⟨.int .u64, 1, 8, .int .u64 0⟩ := tyRow Tryz.underlying279 rfl (by kernel_rfl) rfl
theorem Tryz.ty281 : TyOK Tryz.prog 281 ⟨.array 1 279, 1, 8, .agg #[.int .u64 0]⟩ := tyRow Tryz.underlying281 rfl (by kernel_rfl) rfl
def Tryz.tabL : List (Option TyE) := [
  none,
  none,
  none,
  some ⟨.int .i64, 1, 8, .int .i64 0⟩,
  some ⟨.plain, 1, 1, .bool false⟩,
  none,
  none,
  none,
  none,
  some ⟨.plain, 1, 16, .string ByteArray.empty⟩,
  none,
  none,
  none,
  none,
  none,
  none,
  none,
  none,
  none,
  none,
  none,
  none,
  some ⟨.slice 59, 1, 24, .slice none 0 0⟩,
  some ⟨.slice 58, 1, 24, .slice none 0 0⟩,
  none,
  some ⟨.strct [(0, 4), (1, 22), (2, 23)], 3, 56, .agg #[.bool false, .slice none 0 0, .slice none 0 0]⟩,
  some ⟨.slice 41, 1, 24, .slice none 0 0⟩,
  none,
  some ⟨.strct [(0, 25), (3, 26), (4, 3), (5, 3), (6, 3), (7, 3)], 8, 112, .agg #[.bool false, .slice none 0 0, .slice none 0 0, .slice none 0 0, .int .i64 0, .int .i64 0, .int .i64 0, .int .i64 0]⟩,
  some ⟨.int .i64, 1, 8, .int .i64 0⟩,
  none,
  some ⟨.strct [(0, 29), (1, 3)], 2, 16, .agg #[.int .i64 0, .int .i64 0]⟩,
  some ⟨.int .i64, 1, 8, .int .i64 0⟩,
  none,
  none,
  some ⟨.int .i64, 1, 8, .int .i64 0⟩,
  some ⟨.slice 3, 1, 24, .slice none 0 0⟩,
  some ⟨.slice 115, 1, 24, .slice none 0 0⟩,
  none,
  some ⟨.strct [(0, 36), (1, 36), (2, 37)], 3, 72, .agg #[.slice none 0 0, .slice none 0 0, .slice none 0 0]⟩,
  none,
  some ⟨.strct [(0, 35), (1, 3), (2, 3), (3, 3), (4, 31), (6, 39)], 9, 120, .agg #[.int .i64 0, .int .i64 0, .int .i64 0, .int .i64 0, .int .i64 0, .int .i64 0, .slice none 0 0, .slice none 0 0, .slice none 0 0]⟩,
  none,
  none,
  none,
  some ⟨.slice 31, 1, 24, .slice none 0 0⟩,
  some ⟨.slice 32, 1, 24, .slice none 0 0⟩,
  none,
  none,
  none,
  none,
  some ⟨.slice 78, 1, 24, .slice none 0 0⟩,
  none,
  none,
  none,
  none,
  some ⟨.plain, 1, 8, .nilFunc⟩,
  none,
  some ⟨.strct [(0, 3), (1, 3), (2, 45)], 3, 40, .agg #[.int .i64 0, .int .i64 0, .slice none 0 0]⟩,
  some ⟨.slice 39, 1, 24, .slice none 0 0⟩,
  none,
  none,
  none,
  none,
  none,
  none,
  none,
  none,
  none,
  none,
  none,
  none,
  none,
  none,
  none,
  none,
  none,
  none,
  some ⟨.strct [(0, 3), (1, 3), (2, 31)], 4, 32, .agg #[.int .i64 0, .int .i64 0, .int .i64 0, .int .i64 0]⟩,
  none,
  none,
  none,
  none,
  none,
  none,
  some ⟨.plain, 1, 8, .nilFunc⟩,
  none,
  none,
  none,
  none,
  none,
  none,
  none,
  none,
  none,
  none,
  none,
  none,
  none,
  none,
  none,
  none,
  none,
  none,
  none,
  some ⟨.ptr 140, 1, 8, .pointer none⟩,
  none,
  none,
  none,
  none,
  none,
  none,
  none,
  none,
  none,
  some ⟨.strct [(0, 3), (1, 3)], 2, 16, .agg #[.int .i64 0, .int .i64 0]⟩,
  some ⟨.slice 119, 1, 24, .slice none 0 0⟩,
  none,
  none,
  some ⟨.ptr 169, 1, 8, .pointer none⟩,
  some ⟨.plain, 1, 8, .nilFunc⟩,
  none,
  none,
  some ⟨.plain, 1, 8, .nilFunc⟩,
  none,
  some ⟨.plain, 1, 8, .nilFunc⟩,
  none,
  none,
  none,
  none,
  some ⟨.slice 36, 1, 24, .slice none 0 0⟩,
  none,
  none,
  none,
  none,
  none,
  some ⟨.plain, 1, 8, .nilFunc⟩,
  none,
  none,
  none,
  some ⟨.strct [(0, 4), (1, 116), (2, 23)], 3, 56, .agg #[.bool false, .slice none 0 0, .slice none 0 0]⟩,
  none,
  none,
  none,
  none,
  none,
  none,
  none,
  none,
  none,
  none,
  none,
  none,
  none,
  none,
  none,
  none,
  none,
  none,
  some ⟨.plain, 1, 8, .nilFunc⟩,
  some ⟨.plain, 1, 8, .nilFunc⟩,
  some ⟨.plain, 1, 8, .nilFunc⟩,
  none,
  some ⟨.strct [(0, 160), (1, 161)], 2, 16, .agg #[.nilFunc, .nilFunc]⟩,
  none,
  some ⟨.map 35 163, 1, 8, .map none⟩,
  none,
  some ⟨.slice 39, 1, 24, .slice none 0 0⟩,
  none,
  some ⟨.strct [(0, 167), (1, 130), (2, 130)], 3, 72, .agg #[.slice none 0 0, .slice none 0 0, .slice none 0 0]⟩,
  none,
  none,
  none,
  some ⟨.plain, 1, 8, .nilFunc⟩,
  some ⟨.array 19 4, 19, 19, .agg #[.bool false, .bool false, .bool false, .bool false, .bool false, .bool false, .bool false, .bool false, .bool false, .bool false, .bool false, .bool false, .bool false, .bool false, .bool false, .bool false, .bool false, .bool false, .bool false]⟩,
  none,
  none,
  none,
  none,
  none,
  none,
  none,
  none,
  none,
  none,
  some ⟨.plain, 1, 8, .nilFunc⟩,
  none,
  none,
  none,
  none,
  none,
  none,
  none,
  none,
  none,
  none,
  none,
  none,
  none,
  none,
  none,
  none,
  none,
  none,
  none,
  none,
  none,
  none,
  some ⟨.map 3 36, 1, 8, .map none⟩,
  none,
  none,
  none,
  none,
  none,
  none,
  none,
  none,
  none,
  none,
  none,
  none,
  none,
  none,
  none,
  some ⟨.ptr 229, 1, 8, .pointer none⟩,
  none,
  none,
  some ⟨.slice 281, 1, 24, .slice none 0 0⟩,
  none,
  some ⟨.strct [(0, 130), (1, 227), (2, 208)], 3, 56, .agg #[.slice none 0 0, .slice none 0 0, .map none]⟩,
  none,
  none,
  some ⟨.plain, 1, 8, .nilFunc⟩,
  none,
  none,
  none,
  none,
  some ⟨.int .u64, 1, 8, .int .u64 0⟩,
  none,
  some ⟨.plain, 1, 8, .nilFunc⟩,
  none,
  none,
  none,
  none,
  none,
  none,
  none,
  none,
  none,
  none,
  none,
  none,
  none,
  none,
  none,
  none,
  none,
  none,
  none,
  none,
  none,
  none,
  none,
  none,
  none,
  none,
  none,
  none,
  none,
  none,
  none,
  none,
  none,
  none,
  none,
  none,
  none,
  none,
  none,
  some ⟨.int .u64, 1, 8, .int .u64 0⟩,
  none,
  some ⟨.array 1 279, 1, 8, .agg #[.int .u64 0]⟩]
def Tryz.tab : Tab := fun t => nthT Tryz.tabL t
set_option maxRecDepth 100000 in
theorem Tryz.tabOK : TabOK Tryz.prog Tryz.tab := allOK_tab (L := Tryz.tabL) ⟨Tryz.ty3, Tryz.ty4, Tryz.ty9, Tryz.ty22, Tryz.ty23, Tryz.ty25, Tryz.ty26, Tryz.ty28, Tryz.ty29, Tryz.ty31, Tryz.ty32, Tryz.ty35, Tryz.ty36, Tryz.ty37, Tryz.ty39, Tryz.ty41, Tryz.ty45, Tryz.ty46, Tryz.ty51, Tryz.ty56, Tryz.ty58, Tryz.ty59, Tryz.ty78, Tryz.ty85, Tryz.ty105, Tryz.ty115, Tryz.ty116, Tryz.ty119, Tryz.ty120, Tryz.ty123, Tryz.ty125, Tryz.ty130, Tryz.ty136, Tryz.ty140, Tryz.ty159, Tryz.ty160, Tryz.ty161, Tryz.ty163, Tryz.ty165, Tryz.ty167, Tryz.ty169, Tryz.ty173, Tryz.ty174, Tryz.ty185, Tryz.ty208, Tryz.ty224, Tryz.ty227, Tryz.ty229, Tryz.ty232, Tryz.ty237, Tryz.ty239, Tryz.ty279, Tryz.ty281, trivial⟩
abbrev Tc.int : Nat := 3
abbrev Tc.bool : Nat := 4
abbrev Tc.string : Nat := 9
abbrev Tc.api_TurnWorld : Nat := 25
abbrev Tc.api_MeanKind : Nat := 29
abbrev Tc.api_MeanVal : Nat := 31
abbrev Tc.api_Errno : Nat := 32
abbrev Tc.Lint : Nat := 36
abbrev Tc.api_BindClass : Nat := 39
abbrev Tc.api_TurnStep : Nat := 41
abbrev Tc.api_TurnThing : Nat := 58
abbrev Tc.Lapi_BindClass : Nat := 59
abbrev Tc.api_TurnFrom : Nat := 78
abbrev Tc.api_BindInit : Nat := 115
abbrev Tc.Pturn_schema : Nat := 119
abbrev Tc.turn_world : Nat := 140
abbrev Tc.turn_deed : Nat := 163
abbrev Tc.turn_schema : Nat := 169
abbrev Tc.line_graph : Nat := 229
abbrev Tc.line_set : Nat := 281
end Go.Proofs
namespace Go.Proofs
abbrev Fc.law17_TurnDoes : Nat := 3  -- consort/consortlaw17.TurnDoes
theorem Fn.law17_TurnDoes : Tryz.prog.funcs[3]? = some Tryz.f3 := Tryz.func3
abbrev Fc.law17_TurnPlays : Nat := 4  -- consort/consortlaw17.TurnPlays
theorem Fn.law17_TurnPlays : Tryz.prog.funcs[4]? = some Tryz.f4 := Tryz.func4
abbrev Fc.law17_TurnMaps : Nat := 5  -- consort/consortlaw17.TurnMaps
theorem Fn.law17_TurnMaps : Tryz.prog.funcs[5]? = some Tryz.f5 := Tryz.func5
abbrev Fc.law17_TurnAnew : Nat := 6  -- consort/consortlaw17.TurnAnew
theorem Fn.law17_TurnAnew : Tryz.prog.funcs[6]? = some Tryz.f6 := Tryz.func6
abbrev Fc.law17_TurnChecks : Nat := 7  -- consort/consortlaw17.TurnChecks
theorem Fn.law17_TurnChecks : Tryz.prog.funcs[7]? = some Tryz.f7 := Tryz.func7
abbrev Fc.law17_TurnFormed : Nat := 8  -- consort/consortlaw17.TurnFormed
theorem Fn.law17_TurnFormed : Tryz.prog.funcs[8]? = some Tryz.f8 := Tryz.func8
abbrev Fc.law17_TurnKnown : Nat := 9  -- consort/consortlaw17.TurnKnown
theorem Fn.law17_TurnKnown : Tryz.prog.funcs[9]? = some Tryz.f9 := Tryz.func9
abbrev Fc.law17_TurnOn : Nat := 10  -- consort/consortlaw17.TurnOn
theorem Fn.law17_TurnOn : Tryz.prog.funcs[10]? = some Tryz.f10 := Tryz.func10
abbrev Fc.law17_TurnLooks : Nat := 11  -- consort/consortlaw17.TurnLooks
theorem Fn.law17_TurnLooks : Tryz.prog.funcs[11]? = some Tryz.f11 := Tryz.func11
abbrev Fc.law17_TurnSteady : Nat := 12  -- consort/consortlaw17.TurnSteady
theorem Fn.law17_TurnSteady : Tryz.prog.funcs[12]? = some Tryz.f12 := Tryz.func12
abbrev Fc.law17_TurnLazy : Nat := 13  -- consort/consortlaw17.TurnLazy
theorem Fn.law17_TurnLazy : Tryz.prog.funcs[13]? = some Tryz.f13 := Tryz.func13
abbrev Fc.turn_Do : Nat := 16  -- consort/turn.Do
theorem Fn.turn_Do : Tryz.prog.funcs[16]? = some Tryz.f16 := Tryz.func16
abbrev Fc.ref17_Do : Nat := 17  -- consort/consortref17.Do
theorem Fn.ref17_Do : Tryz.prog.funcs[17]? = some Tryz.f17 := Tryz.func17
abbrev Fc.ref17_Same : Nat := 18  -- consort/consortref17.Same
theorem Fn.ref17_Same : Tryz.prog.funcs[18]? = some Tryz.f18 := Tryz.func18
abbrev Fc.law17_known : Nat := 19  -- consort/consortlaw17.known
theorem Fn.law17_known : Tryz.prog.funcs[19]? = some Tryz.f19 := Tryz.func19
abbrev Fc.turn_Play : Nat := 20  -- consort/turn.Play
theorem Fn.turn_Play : Tryz.prog.funcs[20]? = some Tryz.f20 := Tryz.func20
abbrev Fc.ref17_Play : Nat := 21  -- consort/consortref17.Play
theorem Fn.ref17_Play : Tryz.prog.funcs[21]? = some Tryz.f21 := Tryz.func21
abbrev Fc.ref17_SameVals : Nat := 22  -- consort/consortref17.SameVals
theorem Fn.ref17_SameVals : Tryz.prog.funcs[22]? = some Tryz.f22 := Tryz.func22
abbrev Fc.ref17_SameErrs : Nat := 23  -- consort/consortref17.SameErrs
theorem Fn.ref17_SameErrs : Tryz.prog.funcs[23]? = some Tryz.f23 := Tryz.func23
abbrev Fc.turn_Map : Nat := 24  -- consort/turn.Map
theorem Fn.turn_Map : Tryz.prog.funcs[24]? = some Tryz.f24 := Tryz.func24
abbrev Fc.ref17_Map : Nat := 25  -- consort/consortref17.Map
theorem Fn.ref17_Map : Tryz.prog.funcs[25]? = some Tryz.f25 := Tryz.func25
abbrev Fc.ref17_SameMap : Nat := 26  -- consort/consortref17.SameMap
theorem Fn.ref17_SameMap : Tryz.prog.funcs[26]? = some Tryz.f26 := Tryz.func26
abbrev Fc.ref17_Formed : Nat := 27  -- consort/consortref17.Formed
theorem Fn.ref17_Formed : Tryz.prog.funcs[27]? = some Tryz.f27 := Tryz.func27
abbrev Fc.law17_num : Nat := 28  -- consort/consortlaw17.num
theorem Fn.law17_num : Tryz.prog.funcs[28]? = some Tryz.f28 := Tryz.func28
abbrev Fc.ref17_Own : Nat := 29  -- consort/consortref17.Own
theorem Fn.ref17_Own : Tryz.prog.funcs[29]? = some Tryz.f29 := Tryz.func29
abbrev Fc.slices_Contains_Lint_int : Nat := 30  -- slices.Contains[[]int,int]
theorem Fn.slices_Contains_Lint_int : Tryz.prog.funcs[30]? = some Tryz.f30 := Tryz.func30
abbrev Fc.ref17_SlotsOf : Nat := 31  -- consort/consortref17.SlotsOf
theorem Fn.ref17_SlotsOf : Tryz.prog.funcs[31]? = some Tryz.f31 := Tryz.func31
abbrev Fc.ref17_Begin : Nat := 32  -- consort/consortref17.Begin
theorem Fn.ref17_Begin : Tryz.prog.funcs[32]? = some Tryz.f32 := Tryz.func32
abbrev Fc.turn_Check : Nat := 33  -- consort/turn.Check
theorem Fn.turn_Check : Tryz.prog.funcs[33]? = some Tryz.f33 := Tryz.func33
abbrev Fc.turn_Start : Nat := 34  -- consort/turn.Start
theorem Fn.turn_Start : Tryz.prog.funcs[34]? = some Tryz.f34 := Tryz.func34
abbrev Fc.ref17_Good : Nat := 35  -- consort/consortref17.Good
theorem Fn.ref17_Good : Tryz.prog.funcs[35]? = some Tryz.f35 := Tryz.func35
abbrev Fc.law17_Schema : Nat := 36  -- consort/consortlaw17.Schema
theorem Fn.law17_Schema : Tryz.prog.funcs[36]? = some Tryz.f36 := Tryz.func36
abbrev Fc.law17_Make : Nat := 37  -- consort/consortlaw17.Make
theorem Fn.law17_Make : Tryz.prog.funcs[37]? = some Tryz.f37 := Tryz.func37
abbrev Fc.law17_Put : Nat := 38  -- consort/consortlaw17.Put
theorem Fn.law17_Put : Tryz.prog.funcs[38]? = some Tryz.f38 := Tryz.func38
abbrev Fc.law17_Get : Nat := 39  -- consort/consortlaw17.Get
theorem Fn.law17_Get : Tryz.prog.funcs[39]? = some Tryz.f39 := Tryz.func39
abbrev Fc.slices_Equal_Lapi_MeanVal_api_MeanVal : Nat := 40  -- slices.Equal[[]consort/api.MeanVal,consort/api.MeanVal]
theorem Fn.slices_Equal_Lapi_MeanVal_api_MeanVal : Tryz.prog.funcs[40]? = some Tryz.f40 := Tryz.func40
abbrev Fc.law17_obj : Nat := 41  -- consort/consortlaw17.obj
theorem Fn.law17_obj : Tryz.prog.funcs[41]? = some Tryz.f41 := Tryz.func41
abbrev Fc.law17_none : Nat := 42  -- consort/consortlaw17.none
theorem Fn.law17_none : Tryz.prog.funcs[42]? = some Tryz.f42 := Tryz.func42
abbrev Fc.turn_Look : Nat := 43  -- consort/turn.Look
theorem Fn.turn_Look : Tryz.prog.funcs[43]? = some Tryz.f43 := Tryz.func43
abbrev Fc.turn_Settle : Nat := 44  -- consort/turn.Settle
theorem Fn.turn_Settle : Tryz.prog.funcs[44]? = some Tryz.f44 := Tryz.func44
abbrev Fc.ref17_SameThing : Nat := 45  -- consort/consortref17.SameThing
theorem Fn.ref17_SameThing : Tryz.prog.funcs[45]? = some Tryz.f45 := Tryz.func45
abbrev Fc.ref17_Fresh : Nat := 46  -- consort/consortref17.Fresh
theorem Fn.ref17_Fresh : Tryz.prog.funcs[46]? = some Tryz.f46 := Tryz.func46
abbrev Fc.ref17_SettleOf : Nat := 47  -- consort/consortref17.SettleOf
theorem Fn.ref17_SettleOf : Tryz.prog.funcs[47]? = some Tryz.f47 := Tryz.func47
abbrev Fc.slices_ContainsFunc_Lint_int : Nat := 48  -- slices.ContainsFunc[[]int,int]
theorem Fn.slices_ContainsFunc_Lint_int : Tryz.prog.funcs[48]? = some Tryz.f48 := Tryz.func48
abbrev Fc.law17_above : Nat := 49  -- consort/consortlaw17.above
theorem Fn.law17_above : Tryz.prog.funcs[49]? = some Tryz.f49 := Tryz.func49
abbrev Fc.law17_TurnSteady_1 : Nat := 50  -- consort/consortlaw17.TurnSteady$1
theorem Fn.law17_TurnSteady_1 : Tryz.prog.funcs[50]? = some Tryz.f50 := Tryz.func50
abbrev Fc.ref17_SameClass : Nat := 51  -- consort/consortref17.SameClass
theorem Fn.ref17_SameClass : Tryz.prog.funcs[51]? = some Tryz.f51 := Tryz.func51
abbrev Fc.slices_Equal_Lapi_Errno_api_Errno : Nat := 52  -- slices.Equal[[]consort/api.Errno,consort/api.Errno]
theorem Fn.slices_Equal_Lapi_Errno_api_Errno : Tryz.prog.funcs[52]? = some Tryz.f52 := Tryz.func52
abbrev Fc.ref17_SameBut : Nat := 53  -- consort/consortref17.SameBut
theorem Fn.ref17_SameBut : Tryz.prog.funcs[53]? = some Tryz.f53 := Tryz.func53
abbrev Fc.turn_Schema : Nat := 54  -- consort/turn.Schema
theorem Fn.turn_Schema : Tryz.prog.funcs[54]? = some Tryz.f54 := Tryz.func54
abbrev Fc.ref17_SameClasses : Nat := 57  -- consort/consortref17.SameClasses
theorem Fn.ref17_SameClasses : Tryz.prog.funcs[57]? = some Tryz.f57 := Tryz.func57
abbrev Fc.slices_Clone_Lapi_MeanVal_api_MeanVal : Nat := 59  -- slices.Clone[[]consort/api.MeanVal,consort/api.MeanVal]
theorem Fn.slices_Clone_Lapi_MeanVal_api_MeanVal : Tryz.prog.funcs[59]? = some Tryz.f59 := Tryz.func59
abbrev Fc.turn_open : Nat := 61  -- consort/turn.open
theorem Fn.turn_open : Tryz.prog.funcs[61]? = some Tryz.f61 := Tryz.func61
abbrev Fc.turn_world_step : Nat := 62  -- (*consort/turn.world).step
theorem Fn.turn_world_step : Tryz.prog.funcs[62]? = some Tryz.f62 := Tryz.func62
abbrev Fc.turn_world_shut : Nat := 63  -- (*consort/turn.world).shut
theorem Fn.turn_world_shut : Tryz.prog.funcs[63]? = some Tryz.f63 := Tryz.func63
abbrev Fc.ref17_Refused : Nat := 64  -- consort/consortref17.Refused
theorem Fn.ref17_Refused : Tryz.prog.funcs[64]? = some Tryz.f64 := Tryz.func64
abbrev Fc.ref17_DoOf : Nat := 65  -- consort/consortref17.DoOf
theorem Fn.ref17_DoOf : Tryz.prog.funcs[65]? = some Tryz.f65 := Tryz.func65
abbrev Fc.ref17_Copy : Nat := 66  -- consort/consortref17.Copy
theorem Fn.ref17_Copy : Tryz.prog.funcs[66]? = some Tryz.f66 := Tryz.func66
abbrev Fc.turn_schemas : Nat := 67  -- consort/turn.schemas
theorem Fn.turn_schemas : Tryz.prog.funcs[67]? = some Tryz.f67 := Tryz.func67
abbrev Fc.turn_schema_class : Nat := 68  -- (*consort/turn.schema).class
theorem Fn.turn_schema_class : Tryz.prog.funcs[68]? = some Tryz.f68 := Tryz.func68
abbrev Fc.turn_schema_has : Nat := 69  -- (*consort/turn.schema).has
theorem Fn.turn_schema_has : Tryz.prog.funcs[69]? = some Tryz.f69 := Tryz.func69
abbrev Fc.turn_each_int_api_TurnFrom : Nat := 70  -- consort/turn.each[int,consort/api.TurnFrom]
theorem Fn.turn_each_int_api_TurnFrom : Tryz.prog.funcs[70]? = some Tryz.f70 := Tryz.func70
abbrev Fc.turn_Map_1 : Nat := 71  -- consort/turn.Map$1
theorem Fn.turn_Map_1 : Tryz.prog.funcs[71]? = some Tryz.f71 := Tryz.func71
abbrev Fc.slices_IndexFunc_Lapi_TurnFrom_api_TurnFrom : Nat := 72  -- slices.IndexFunc[[]consort/api.TurnFrom,consort/api.TurnFrom]
theorem Fn.slices_IndexFunc_Lapi_TurnFrom_api_TurnFrom : Tryz.prog.funcs[72]? = some Tryz.f72 := Tryz.func72
abbrev Fc.turn_Map_1_1 : Nat := 73  -- consort/turn.Map$1$1
theorem Fn.turn_Map_1_1 : Tryz.prog.funcs[73]? = some Tryz.f73 := Tryz.func73
abbrev Fc.turn_schema_begin : Nat := 74  -- (*consort/turn.schema).begin
theorem Fn.turn_schema_begin : Tryz.prog.funcs[74]? = some Tryz.f74 := Tryz.func74
abbrev Fc.ref17_Schemas : Nat := 75  -- consort/consortref17.Schemas
theorem Fn.ref17_Schemas : Tryz.prog.funcs[75]? = some Tryz.f75 := Tryz.func75
abbrev Fc.ref17_MapOf : Nat := 76  -- consort/consortref17.MapOf
theorem Fn.ref17_MapOf : Tryz.prog.funcs[76]? = some Tryz.f76 := Tryz.func76
abbrev Fc.ref04_Vals : Nat := 77  -- consort/consortref04.Vals
theorem Fn.ref04_Vals : Tryz.prog.funcs[77]? = some Tryz.f77 := Tryz.func77
abbrev Fc.slices_Index_Lint_int : Nat := 78  -- slices.Index[[]int,int]
theorem Fn.slices_Index_Lint_int : Tryz.prog.funcs[78]? = some Tryz.f78 := Tryz.func78
abbrev Fc.ref17_Graph : Nat := 79  -- consort/consortref17.Graph
theorem Fn.ref17_Graph : Tryz.prog.funcs[79]? = some Tryz.f79 := Tryz.func79
abbrev Fc.ref03_Has : Nat := 80  -- consort/consortref03.Has
theorem Fn.ref03_Has : Tryz.prog.funcs[80]? = some Tryz.f80 := Tryz.func80
abbrev Fc.ref03_BelowOf : Nat := 81  -- consort/consortref03.BelowOf
theorem Fn.ref03_BelowOf : Tryz.prog.funcs[81]? = some Tryz.f81 := Tryz.func81
abbrev Fc.ref03_LinOf : Nat := 82  -- consort/consortref03.LinOf
theorem Fn.ref03_LinOf : Tryz.prog.funcs[82]? = some Tryz.f82 := Tryz.func82
abbrev Fc.turn_each_api_BindClass_api_BindClass : Nat := 83  -- consort/turn.each[consort/api.BindClass,consort/api.BindClass]
theorem Fn.turn_each_api_BindClass_api_BindClass : Tryz.prog.funcs[83]? = some Tryz.f83 := Tryz.func83
abbrev Fc.turn_copied : Nat := 84  -- consort/turn.copied
theorem Fn.turn_copied : Tryz.prog.funcs[84]? = some Tryz.f84 := Tryz.func84
abbrev Fc.ref03_Good : Nat := 85  -- consort/consortref03.Good
theorem Fn.ref03_Good : Tryz.prog.funcs[85]? = some Tryz.f85 := Tryz.func85
abbrev Fc.turn_world_fresh : Nat := 86  -- (*consort/turn.world).fresh
theorem Fn.turn_world_fresh : Tryz.prog.funcs[86]? = some Tryz.f86 := Tryz.func86
abbrev Fc.turn_world_settle : Nat := 87  -- (*consort/turn.world).settle
theorem Fn.turn_world_settle : Tryz.prog.funcs[87]? = some Tryz.f87 := Tryz.func87
abbrev Fc.ref17_turned : Nat := 88  -- consort/consortref17.turned
theorem Fn.ref17_turned : Tryz.prog.funcs[88]? = some Tryz.f88 := Tryz.func88
abbrev Fc.slices_IndexFunc_Lint_int : Nat := 89  -- slices.IndexFunc[[]int,int]
theorem Fn.slices_IndexFunc_Lint_int : Tryz.prog.funcs[89]? = some Tryz.f89 := Tryz.func89
abbrev Fc.ref04_SameInts : Nat := 90  -- consort/consortref04.SameInts
theorem Fn.ref04_SameInts : Tryz.prog.funcs[90]? = some Tryz.f90 := Tryz.func90
abbrev Fc.ref05_SameInits : Nat := 91  -- consort/consortref05.SameInits
theorem Fn.ref05_SameInits : Tryz.prog.funcs[91]? = some Tryz.f91 := Tryz.func91
abbrev Fc.turn_read : Nat := 92  -- consort/turn.read
theorem Fn.turn_read : Tryz.prog.funcs[92]? = some Tryz.f92 := Tryz.func92
abbrev Fc.slices_ContainsFunc_Lapi_MeanVal_api_MeanVal : Nat := 101  -- slices.ContainsFunc[[]consort/api.MeanVal,consort/api.MeanVal]
theorem Fn.slices_ContainsFunc_Lapi_MeanVal_api_MeanVal : Tryz.prog.funcs[101]? = some Tryz.f101 := Tryz.func101
abbrev Fc.turn_open_1 : Nat := 102  -- consort/turn.open$1
theorem Fn.turn_open_1 : Tryz.prog.funcs[102]? = some Tryz.f102 := Tryz.func102
abbrev Fc.turn_value : Nat := 103  -- consort/turn.value
theorem Fn.turn_value : Tryz.prog.funcs[103]? = some Tryz.f103 := Tryz.func103
abbrev Fc.turn_deeds : Nat := 104  -- consort/turn.deeds
theorem Fn.turn_deeds : Tryz.prog.funcs[104]? = some Tryz.f104 := Tryz.func104
abbrev Fc.ref17_made : Nat := 105  -- consort/consortref17.made
theorem Fn.ref17_made : Tryz.prog.funcs[105]? = some Tryz.f105 := Tryz.func105
abbrev Fc.ref04_Val : Nat := 106  -- consort/consortref04.Val
theorem Fn.ref04_Val : Tryz.prog.funcs[106]? = some Tryz.f106 := Tryz.func106
abbrev Fc.ref17_place : Nat := 107  -- consort/consortref17.place
theorem Fn.ref17_place : Tryz.prog.funcs[107]? = some Tryz.f107 := Tryz.func107
abbrev Fc.ref17_Classes : Nat := 108  -- consort/consortref17.Classes
theorem Fn.ref17_Classes : Tryz.prog.funcs[108]? = some Tryz.f108 := Tryz.func108
abbrev Fc.slices_IndexFunc_Lapi_BindInit_api_BindInit : Nat := 109  -- slices.IndexFunc[[]consort/api.BindInit,consort/api.BindInit]
theorem Fn.slices_IndexFunc_Lapi_BindInit_api_BindInit : Tryz.prog.funcs[109]? = some Tryz.f109 := Tryz.func109
abbrev Fc.turn_schema_begin_1 : Nat := 110  -- (*consort/turn.schema).begin$1
theorem Fn.turn_schema_begin_1 : Tryz.prog.funcs[110]? = some Tryz.f110 := Tryz.func110
abbrev Fc.ref03_OrdersOf : Nat := 111  -- consort/consortref03.OrdersOf
theorem Fn.ref03_OrdersOf : Tryz.prog.funcs[111]? = some Tryz.f111 := Tryz.func111
abbrev Fc.slices_Clone_Lint_int : Nat := 112  -- slices.Clone[[]int,int]
theorem Fn.slices_Clone_Lint_int : Tryz.prog.funcs[112]? = some Tryz.f112 := Tryz.func112
abbrev Fc.slices_Clone_Lapi_BindInit_api_BindInit : Nat := 113  -- slices.Clone[[]consort/api.BindInit,consort/api.BindInit]
theorem Fn.slices_Clone_Lapi_BindInit_api_BindInit : Tryz.prog.funcs[113]? = some Tryz.f113 := Tryz.func113
abbrev Fc.turn_world_ways : Nat := 114  -- (*consort/turn.world).ways
theorem Fn.turn_world_ways : Tryz.prog.funcs[114]? = some Tryz.f114 := Tryz.func114
abbrev Fc.turn_schema_kept : Nat := 115  -- (*consort/turn.schema).kept
theorem Fn.turn_schema_kept : Tryz.prog.funcs[115]? = some Tryz.f115 := Tryz.func115
abbrev Fc.turn_world_touch : Nat := 116  -- (*consort/turn.world).touch
theorem Fn.turn_world_touch : Tryz.prog.funcs[116]? = some Tryz.f116 := Tryz.func116
abbrev Fc.turn_each_api_BindClass_Lint : Nat := 117  -- consort/turn.each[consort/api.BindClass,[]int]
theorem Fn.turn_each_api_BindClass_Lint : Tryz.prog.funcs[117]? = some Tryz.f117 := Tryz.func117
abbrev Fc.turn_read_1 : Nat := 118  -- consort/turn.read$1
theorem Fn.turn_read_1 : Tryz.prog.funcs[118]? = some Tryz.f118 := Tryz.func118
abbrev Fc.line_Check : Nat := 119  -- consort/line.Check
theorem Fn.line_Check : Tryz.prog.funcs[119]? = some Tryz.f119 := Tryz.func119
abbrev Fc.line_Lin : Nat := 120  -- consort/line.Lin
theorem Fn.line_Lin : Tryz.prog.funcs[120]? = some Tryz.f120 := Tryz.func120
abbrev Fc.turn_once : Nat := 121  -- consort/turn.once
theorem Fn.turn_once : Tryz.prog.funcs[121]? = some Tryz.f121 := Tryz.func121
abbrev Fc.turn_read_2 : Nat := 122  -- consort/turn.read$2
theorem Fn.turn_read_2 : Tryz.prog.funcs[122]? = some Tryz.f122 := Tryz.func122
abbrev Fc.slices_Concat_Lint_int : Nat := 123  -- slices.Concat[[]int,int]
theorem Fn.slices_Concat_Lint_int : Tryz.prog.funcs[123]? = some Tryz.f123 := Tryz.func123
abbrev Fc.turn_each_int_Lint : Nat := 124  -- consort/turn.each[int,[]int]
theorem Fn.turn_each_int_Lint : Tryz.prog.funcs[124]? = some Tryz.f124 := Tryz.func124
abbrev Fc.turn_read_3 : Nat := 125  -- consort/turn.read$3
theorem Fn.turn_read_3 : Tryz.prog.funcs[125]? = some Tryz.f125 := Tryz.func125
abbrev Fc.slices_Sort_Lint_int : Nat := 126  -- slices.Sort[[]int,int]
theorem Fn.slices_Sort_Lint_int : Tryz.prog.funcs[126]? = some Tryz.f126 := Tryz.func126
abbrev Fc.turn_schema_starts : Nat := 127  -- (*consort/turn.schema).starts
theorem Fn.turn_schema_starts : Tryz.prog.funcs[127]? = some Tryz.f127 := Tryz.func127
abbrev Fc.slices_IndexFunc_Lapi_MeanVal_api_MeanVal : Nat := 143  -- slices.IndexFunc[[]consort/api.MeanVal,consort/api.MeanVal]
theorem Fn.slices_IndexFunc_Lapi_MeanVal_api_MeanVal : Tryz.prog.funcs[143]? = some Tryz.f143 := Tryz.func143
abbrev Fc.turn_none : Nat := 144  -- consort/turn.none
theorem Fn.turn_none : Tryz.prog.funcs[144]? = some Tryz.f144 := Tryz.func144
abbrev Fc.turn_world_mayMake : Nat := 145  -- (*consort/turn.world).mayMake
theorem Fn.turn_world_mayMake : Tryz.prog.funcs[145]? = some Tryz.f145 := Tryz.func145
abbrev Fc.turn_world_doMake : Nat := 146  -- (*consort/turn.world).doMake
theorem Fn.turn_world_doMake : Tryz.prog.funcs[146]? = some Tryz.f146 := Tryz.func146
abbrev Fc.turn_world_mayNew : Nat := 147  -- (*consort/turn.world).mayNew
theorem Fn.turn_world_mayNew : Tryz.prog.funcs[147]? = some Tryz.f147 := Tryz.func147
abbrev Fc.turn_world_doNew : Nat := 148  -- (*consort/turn.world).doNew
theorem Fn.turn_world_doNew : Tryz.prog.funcs[148]? = some Tryz.f148 := Tryz.func148
abbrev Fc.turn_world_mayTouch : Nat := 149  -- (*consort/turn.world).mayTouch
theorem Fn.turn_world_mayTouch : Tryz.prog.funcs[149]? = some Tryz.f149 := Tryz.func149
abbrev Fc.turn_world_doGet : Nat := 150  -- (*consort/turn.world).doGet
theorem Fn.turn_world_doGet : Tryz.prog.funcs[150]? = some Tryz.f150 := Tryz.func150
abbrev Fc.turn_world_doPut : Nat := 151  -- (*consort/turn.world).doPut
theorem Fn.turn_world_doPut : Tryz.prog.funcs[151]? = some Tryz.f151 := Tryz.func151
abbrev Fc.turn_world_doTo : Nat := 152  -- (*consort/turn.world).doTo
theorem Fn.turn_world_doTo : Tryz.prog.funcs[152]? = some Tryz.f152 := Tryz.func152
abbrev Fc.turn_world_doTouch : Nat := 153  -- (*consort/turn.world).doTouch
theorem Fn.turn_world_doTouch : Tryz.prog.funcs[153]? = some Tryz.f153 := Tryz.func153
abbrev Fc.ref17_Class : Nat := 154  -- consort/consortref17.Class
theorem Fn.ref17_Class : Tryz.prog.funcs[154]? = some Tryz.f154 := Tryz.func154
abbrev Fc.ref03_lists : Nat := 155  -- consort/consortref03.lists
theorem Fn.ref03_lists : Tryz.prog.funcs[155]? = some Tryz.f155 := Tryz.func155
abbrev Fc.ref03_merge : Nat := 156  -- consort/consortref03.merge
theorem Fn.ref03_merge : Tryz.prog.funcs[156]? = some Tryz.f156 := Tryz.func156
abbrev Fc.turn_world_ways_1 : Nat := 157  -- (*consort/turn.world).ways$1
theorem Fn.turn_world_ways_1 : Tryz.prog.funcs[157]? = some Tryz.f157 := Tryz.func157
abbrev Fc.turn_each_int_api_MeanVal : Nat := 158  -- consort/turn.each[int,consort/api.MeanVal]
theorem Fn.turn_each_int_api_MeanVal : Tryz.prog.funcs[158]? = some Tryz.f158 := Tryz.func158
abbrev Fc.turn_schema_kept_1 : Nat := 159  -- (*consort/turn.schema).kept$1
theorem Fn.turn_schema_kept_1 : Tryz.prog.funcs[159]? = some Tryz.f159 := Tryz.func159
abbrev Fc.line_fine : Nat := 160  -- consort/line.fine
theorem Fn.line_fine : Tryz.prog.funcs[160]? = some Tryz.f160 := Tryz.func160
abbrev Fc.line_open : Nat := 161  -- consort/line.open
theorem Fn.line_open : Tryz.prog.funcs[161]? = some Tryz.f161 := Tryz.func161
abbrev Fc.slices_Sorted_int : Nat := 162  -- slices.Sorted[int]
theorem Fn.slices_Sorted_int : Tryz.prog.funcs[162]? = some Tryz.f162 := Tryz.func162
abbrev Fc.slices_Values_Lint_int : Nat := 163  -- slices.Values[[]int,int]
theorem Fn.slices_Values_Lint_int : Tryz.prog.funcs[163]? = some Tryz.f163 := Tryz.func163
abbrev Fc.slices_Compact_Lint_int : Nat := 164  -- slices.Compact[[]int,int]
theorem Fn.slices_Compact_Lint_int : Tryz.prog.funcs[164]? = some Tryz.f164 := Tryz.func164
abbrev Fc.slices_Grow_Lint_int : Nat := 165  -- slices.Grow[[]int,int]
theorem Fn.slices_Grow_Lint_int : Tryz.prog.funcs[165]? = some Tryz.f165 := Tryz.func165
abbrev Fc.turn_each_api_BindInit_int : Nat := 168  -- consort/turn.each[consort/api.BindInit,int]
theorem Fn.turn_each_api_BindInit_int : Tryz.prog.funcs[168]? = some Tryz.f168 := Tryz.func168
abbrev Fc.turn_schema_starts_1 : Nat := 169  -- (*consort/turn.schema).starts$1
theorem Fn.turn_schema_starts_1 : Tryz.prog.funcs[169]? = some Tryz.f169 := Tryz.func169
abbrev Fc.slices_ContainsFunc_Lapi_BindInit_api_BindInit : Nat := 170  -- slices.ContainsFunc[[]consort/api.BindInit,consort/api.BindInit]
theorem Fn.slices_ContainsFunc_Lapi_BindInit_api_BindInit : Tryz.prog.funcs[170]? = some Tryz.f170 := Tryz.func170
abbrev Fc.turn_schema_starts_2 : Nat := 171  -- (*consort/turn.schema).starts$2
theorem Fn.turn_schema_starts_2 : Tryz.prog.funcs[171]? = some Tryz.f171 := Tryz.func171
abbrev Fc.turn_world_last : Nat := 202  -- (*consort/turn.world).last
theorem Fn.turn_world_last : Tryz.prog.funcs[202]? = some Tryz.f202 := Tryz.func202
abbrev Fc.turn_world_made : Nat := 203  -- (*consort/turn.world).made
theorem Fn.turn_world_made : Tryz.prog.funcs[203]? = some Tryz.f203 := Tryz.func203
abbrev Fc.turn_world_slot : Nat := 204  -- (*consort/turn.world).slot
theorem Fn.turn_world_slot : Tryz.prog.funcs[204]? = some Tryz.f204 := Tryz.func204
abbrev Fc.ref03_parents : Nat := 205  -- consort/consortref03.parents
theorem Fn.ref03_parents : Tryz.prog.funcs[205]? = some Tryz.f205 := Tryz.func205
abbrev Fc.ref03_without : Nat := 206  -- consort/consortref03.without
theorem Fn.ref03_without : Tryz.prog.funcs[206]? = some Tryz.f206 := Tryz.func206
abbrev Fc.ref03_free : Nat := 207  -- consort/consortref03.free
theorem Fn.ref03_free : Tryz.prog.funcs[207]? = some Tryz.f207 := Tryz.func207
abbrev Fc.line_set_with : Nat := 208  -- (consort/line.set).with
theorem Fn.line_set_with : Tryz.prog.funcs[208]? = some Tryz.f208 := Tryz.func208
abbrev Fc.line_set_or : Nat := 209  -- (consort/line.set).or
theorem Fn.line_set_or : Tryz.prog.funcs[209]? = some Tryz.f209 := Tryz.func209
abbrev Fc.line_graph_order : Nat := 210  -- (*consort/line.graph).order
theorem Fn.line_graph_order : Tryz.prog.funcs[210]? = some Tryz.f210 := Tryz.func210
abbrev Fc.slices_Collect_int : Nat := 211  -- slices.Collect[int]
theorem Fn.slices_Collect_int : Tryz.prog.funcs[211]? = some Tryz.f211 := Tryz.func211
abbrev Fc.slices_Values_Lint_int_1 : Nat := 212  -- slices.Values[[]int,int]$1
theorem Fn.slices_Values_Lint_int_1 : Tryz.prog.funcs[212]? = some Tryz.f212 := Tryz.func212
abbrev Fc.line_graph_lists : Nat := 239  -- (*consort/line.graph).lists
theorem Fn.line_graph_lists : Tryz.prog.funcs[239]? = some Tryz.f239 := Tryz.func239
abbrev Fc.line_merge : Nat := 240  -- consort/line.merge
theorem Fn.line_merge : Tryz.prog.funcs[240]? = some Tryz.f240 := Tryz.func240
abbrev Fc.slices_AppendSeq_Lint_int : Nat := 241  -- slices.AppendSeq[[]int,int]
theorem Fn.slices_AppendSeq_Lint_int : Tryz.prog.funcs[241]? = some Tryz.f241 := Tryz.func241
abbrev Fc.line_bare : Nat := 254  -- consort/line.bare
theorem Fn.line_bare : Tryz.prog.funcs[254]? = some Tryz.f254 := Tryz.func254
abbrev Fc.line_keep_int : Nat := 255  -- consort/line.keep[int]
theorem Fn.line_keep_int : Tryz.prog.funcs[255]? = some Tryz.f255 := Tryz.func255
abbrev Fc.line_merge_1 : Nat := 256  -- consort/line.merge$1
theorem Fn.line_merge_1 : Tryz.prog.funcs[256]? = some Tryz.f256 := Tryz.func256
abbrev Fc.line_bare_1 : Nat := 264  -- consort/line.bare$1
theorem Fn.line_bare_1 : Tryz.prog.funcs[264]? = some Tryz.f264 := Tryz.func264
theorem Tryz.mixed : Tryz.prog.follows .mixedOrders = true := by kernel_rfl
end Go.Proofs
namespace Go.Proofs
open Go Go.W Go.V
theorem s_ref03_Has (l : List Int) (n : Int) : V.Spec Tryz.prog Fc.ref03_Has [ints l, V.int n] [] (V.bool (l.contains n)) [] := by
  refine V.Spec.enter Tryz.tabOK Tryz.mixed Fn.ref03_Has rfl rfl rfl fun B hB => ?_
  refine TC.bl 0 fun hl => ?_
  repeat' (with_reducible first | refine OL.st ?_ | refine TC.region ?_ | refine TC.seq ?_ | refine OL.nil ?_ | refine TX.thenN ?_ | refine TC.block ?_ | fail)
  refine TC.lp (fun k : Nat => [(0, ints l), (1, V.int n), (5, V.int k)]) (fun _ => []) (fun k => k ≤ l.length ∧ l.contains n = (l.drop k).contains n) (fun k => l.length - k) 0 [] ⟨Nat.zero_le _, rfl⟩ ?_
  rintro k ⟨hk, hinv⟩
  repeat' (with_reducible first | refine OL.st ?_ | refine TC.region ?_ | refine TC.seq ?_ | refine OL.nil ?_ | refine TX.thenN ?_ | refine TC.block ?_ | refine TC.skip ?_ | refine TX.blkN ?_ | refine TC.exit ?_ | refine TX.hit ?_ | refine TX.thenX ?_ | refine TC.ifD ?_ ?_ <;> (intro hc; try (exfalso; omega)) | refine TC.ret ?_ | refine TX.thenR ?_ | refine TX.blkR ?_ | fail)
  · refine TX.rt1 [] (.bool ?_)
    rw [hinv, drop_cons (by omega), hc]
    simp
  · refine TX.rd (k + 1) [] ⟨by omega, ?_⟩ (by omega)
    rw [hinv, drop_cons (by omega)]
    have : (n == l[k]) = false := by simp; exact fun e => hc e.symm
    rw [List.contains_cons, this, Bool.false_or]
  · refine TX.rt1 [] (.bool ?_)
    rw [hinv, drop_nil (by omega)]
    rfl
theorem s_ref03_parents (g : List (List Int)) (c : Int) (_h0 : 0 ≤ c) (h1 : c < 3 + (g.length : Int)) (hb : g.length ≤ 1000000000) : V.Spec Tryz.prog Fc.ref03_parents [rows g, V.int c] [] (ints (pOf g c)) [] := by
  refine V.Spec.enter Tryz.tabOK Tryz.mixed Fn.ref03_parents rfl rfl rfl fun B hB => ?_
  repeat' (with_reducible first | refine OL.st ?_ | refine TC.region ?_ | refine TC.seq ?_ | refine OL.nil ?_ | refine TX.thenN ?_ | refine TC.skip ?_ | refine TC.ifD ?_ ?_ <;> (intro hc; try (exfalso; omega)) | refine TC.ret ?_ | refine TX.thenR ?_ | fail)
  · rw [pOf, if_pos (by omega)]
    exact TX.rt1 [] (.nil (by decide))
  · rw [pOf, if_neg (by omega), getD_lt (by omega)]
    exact TX.rt1 [] (.ren rfl)
theorem s_ref03_without (l : List Int) (n : Int) (hb : l.length ≤ 1000000000) : V.Spec Tryz.prog Fc.ref03_without [ints l, V.int n] [] (.hs 0) [.gs false Tc.int 1 none ((without l n).map V.int)] := by
  refine V.Spec.enter Tryz.tabOK Tryz.mixed Fn.ref03_without rfl rfl rfl fun B hB => ?_
  repeat' (with_reducible first | refine OL.st ?_ | refine TC.region ?_ | refine TC.seq ?_ | refine OL.nil ?_ | refine TX.thenN ?_ | refine TC.block ?_ | fail)
  refine TC.adp 5 Tc.int 1 ?_
  refine TC.lp (fun k : Nat => [(0, ints l), (1, V.int n), (5, .hs 0), (6, V.int k)]) (fun k => [.gs false Tc.int 1 none ((without (l.take k) n).map V.int)]) (fun k => k ≤ l.length) (fun k => l.length - k) 0 [0] (Nat.zero_le _) ?_
  rintro k hk
  have hfl : (without (l.take k) n).length ≤ l.length := Nat.le_trans (List.length_filter_le _ _) (by simp; omega)
  repeat' (with_reducible first | refine OL.st ?_ | refine OL.lit ?_ | refine OL.appO ?_ | refine TC.region ?_ | refine TC.seq ?_ | refine OL.nil ?_ | refine TX.thenN ?_ | refine TC.block ?_ | refine TC.skip ?_ | refine TX.blkN ?_ | refine TC.exit ?_ | refine TX.hit ?_ | refine TX.thenX ?_ | refine TC.ifD ?_ ?_ <;> (intro hc; try (exfalso; omega)) | refine TC.ret ?_ | fail)
  · refine TX.eqη (η' := [.dead, .dead, .gs false Tc.int 1 none ((without (l.take (k+1)) n).map V.int)]) ?_ ?_
    · rw [without, without, filter_take_t (by omega) (by simpa using hc)]; simp
    · exact TX.rd (k + 1) [2] (by omega) (by omega)
  · refine TX.eqη (η' := [.gs false Tc.int 1 none ((without (l.take (k+1)) n).map V.int)]) ?_ ?_
    · rw [without, without, filter_take_f (by omega) (by simpa using hc)]
    · exact TX.rd (k + 1) [0] (by omega) (by omega)
  · rw [take_all (by omega)]
    exact TX.rt1 [0] (.ren rfl)
theorem s_ref03_free (all : List (List Int)) (c : Int) : V.Spec Tryz.prog Fc.ref03_free [rows all, V.int c] [] (V.bool (free all c)) [] := by
  refine V.Spec.enter Tryz.tabOK Tryz.mixed Fn.ref03_free rfl rfl rfl fun B hB => ?_
  refine TC.bl 0 fun hl => ?_
  repeat' (with_reducible first | refine OL.st ?_ | refine TC.region ?_ | refine TC.seq ?_ | refine OL.nil ?_ | refine TX.thenN ?_ | refine TC.block ?_ | fail)
  refine TC.lp (fun k : Nat => [(0, rows all), (1, V.int c), (5, V.int k)]) (fun _ => []) (fun k => k ≤ all.length ∧ free all c = free (all.drop k) c) (fun k => all.length - k) 0 [] ⟨Nat.zero_le _, rfl⟩ ?_
  rintro k ⟨hk, hinv⟩
  repeat' (with_reducible first | refine OL.st ?_ | refine TC.region ?_ | refine TC.seq ?_ | refine OL.nil ?_ | refine TX.thenN ?_ | refine TC.block ?_ | refine TC.skip ?_ | refine TX.blkN ?_ | refine TC.exit ?_ | refine TX.hit ?_ | refine TX.thenX ?_ | refine TC.ifF ?_ | refine OL.gOn ?_ | refine OL.gOff ?_ | refine TC.ifD ?_ ?_ <;> (intro hc; try (exfalso; omega)) | refine OL.gD ?_ ?_ <;> (intro hc; try (exfalso; omega)) | refine TC.ret ?_ | fail)
  · refine OL.c (s_ref03_Has (all[k].drop 1) c) Fn.ref03_Has ?_
    repeat' (with_reducible first | refine OL.st ?_ | refine OL.nil ?_ | refine TX.thenN ?_ | fail)
    refine TC.ifB (fun hct => ?_) (fun hct => ?_)
    · repeat' (with_reducible first | refine OL.st ?_ | refine TC.region ?_ | refine TC.seq ?_ | refine OL.nil ?_ | refine TX.thenN ?_ | refine TC.ret ?_ | refine TX.thenR ?_ | refine TX.blkR ?_ | fail)
      refine TX.rt1 [] (.bool ?_)
      rw [hinv, drop_cons (by omega)]
      simp only [free, List.all_cons, hct, Bool.not_true, Bool.false_and]
    · repeat' (with_reducible first | refine OL.st ?_ | refine TC.region ?_ | refine OL.nil ?_ | refine TX.thenN ?_ | refine TC.skip ?_ | refine TX.blkN ?_ | fail)
      refine TX.rd (k + 1) [] ⟨by omega, ?_⟩ (by omega)
      rw [hinv, drop_cons (by omega)]
      simp only [free, List.all_cons, hct, Bool.not_false, Bool.true_and]
  · refine TX.rd (k + 1) [] ⟨by omega, ?_⟩ (by omega)
    rw [hinv, drop_cons (by omega)]
    have : all[k] = [] := List.eq_nil_of_length_eq_zero (by omega)
    simp [free, this]
  · refine TX.rt1 [] (.bool ?_)
    rw [hinv, drop_nil (by omega)]
    rfl
end Go.Proofs
namespace Go.Proofs
open Go Go.W Go.V
theorem s_slices_Index_Lint_int (l : List Int) (n : Int) : V.Spec Tryz.prog Fc.slices_Index_Lint_int [ints l, V.int n] [] (V.int (fidx (fun x => n == x) 0 l)) [] := by
  refine V.Spec.enter Tryz.tabOK Tryz.mixed Fn.slices_Index_Lint_int rfl rfl rfl fun B hB => ?_
  refine TC.bl 0 fun hl => ?_
  repeat' (with_reducible first | refine OL.st ?_ | refine TC.region ?_ | refine TC.seq ?_ | refine OL.nil ?_ | refine TX.thenN ?_ | refine TC.block ?_ | fail)
  refine TC.lp (fun k : Nat => [(0, ints l), (1, V.int n), (7, V.int l.length), (8, V.int k)]) (fun _ => []) (fun k => k ≤ l.length ∧ fidx (fun x => n == x) 0 l = fidx (fun x => n == x) k (l.drop k)) (fun k => l.length - k) 0 [] ⟨Nat.zero_le _, rfl⟩ ?_
  rintro k ⟨hk, hinv⟩
  repeat' (with_reducible first | refine OL.st ?_ | refine TC.region ?_ | refine TC.seq ?_ | refine OL.nil ?_ | refine TX.thenN ?_ | refine TC.block ?_ | refine TC.skip ?_ | refine TX.blkN ?_ | refine TC.exit ?_ | refine TX.hit ?_ | refine TX.thenX ?_ | refine TC.ifD ?_ ?_ <;> (intro hc; try (exfalso; omega)) | refine TC.ret ?_ | refine TX.thenR ?_ | refine TX.blkR ?_ | fail)
  · refine TX.rt1 [] (.int ?_)
    rw [hinv, drop_cons (by omega)]
    simp [fidx, ← hc]
  · refine TX.rd (k + 1) [] ⟨by omega, ?_⟩ (by omega)
    rw [hinv, drop_cons (by omega)]
    simp [fidx, hc]
  · refine TX.rt1 [] (.int ?_)
    rw [hinv, drop_nil (by omega)]
    rfl
theorem s_slices_Contains_Lint_int (l : List Int) (n : Int) : V.Spec Tryz.prog Fc.slices_Contains_Lint_int [ints l, V.int n] [] (V.bool (l.contains n)) [] := by
  refine V.Spec.enter Tryz.tabOK Tryz.mixed Fn.slices_Contains_Lint_int rfl rfl rfl fun B hB => ?_
  repeat' (with_reducible first | refine OL.st ?_ | refine TC.region ?_ | refine TC.seq ?_ | refine OL.nil ?_ | refine TX.thenN ?_ | fail)
  refine OL.c (s_slices_Index_Lint_int l n) Fn.slices_Index_Lint_int ?_
  repeat' (with_reducible first | refine OL.st ?_ | refine OL.nil ?_ | refine TX.thenN ?_ | refine TC.ret ?_ | fail)
  refine TX.rt1 [] (.bool ?_)
  rw [← any_beq_contains]
  cases h : l.any fun x => n == x
  · rw [decide_eq_false]; intro h'; rw [(fidx_nonneg _ _ _).1 h'] at h; cases h
  · exact decide_eq_true ((fidx_nonneg _ _ _).2 h)
theorem s_slices_IndexFunc_Lint_int (l : List (Int)) (p : Int → Bool) : V.Spec Tryz.prog Fc.slices_IndexFunc_Lint_int [.sl 1 none (l.map V.int), predE Tryz.prog V.int (· ∈ l) p] [] (V.int (fidx p 0 l)) [] := by
  refine V.Spec.enter Tryz.tabOK Tryz.mixed Fn.slices_IndexFunc_Lint_int rfl rfl rfl fun B hB => ?_
  refine TC.bl 0 fun hl => ?_
  repeat' (with_reducible first | refine OL.st ?_ | refine TC.region ?_ | refine TC.seq ?_ | refine OL.nil ?_ | refine TX.thenN ?_ | refine TC.block ?_ | fail)
  refine TC.lp (fun k : Nat => [(0, .sl 1 none (l.map V.int)), (1, predE Tryz.prog V.int (· ∈ l) p), (7, V.int l.length), (8, V.int k)]) (fun _ => []) (fun k => k ≤ l.length ∧ fidx p 0 l = fidx p k (l.drop k)) (fun k => l.length - k) 0 [] ⟨Nat.zero_le _, rfl⟩ ?_
  rintro k ⟨hk, hinv⟩
  repeat' (with_reducible first | refine OL.st ?_ | refine TC.region ?_ | refine TC.seq ?_ | refine OL.nil ?_ | refine TX.thenN ?_ | refine TC.block ?_ | refine TC.skip ?_ | refine TC.exit ?_ | refine TX.hit ?_ | refine TX.thenX ?_ | refine TC.ifD ?_ ?_ <;> (intro hc; try (exfalso; omega)) | refine TC.ret ?_ | fail)
  · refine OL.cf l[k] (List.getElem_mem _) ?_
    repeat' (first | (with_reducible refine OL.nil ?_) | (with_reducible refine TX.thenN ?_) | fail)
    refine TC.ifB (fun hp => ?_) (fun hp => ?_)
    · repeat' (with_reducible first | refine OL.st ?_ | refine TC.region ?_ | refine TC.seq ?_ | refine OL.nil ?_ | refine TX.thenN ?_ | refine TC.ret ?_ | refine TX.thenR ?_ | refine TX.blkR ?_ | fail)
      refine TX.rt1 [] (.int ?_)
      rw [hinv, drop_cons (by omega)]
      simp [fidx, hp]
    · repeat' (with_reducible first | refine OL.st ?_ | refine TC.region ?_ | refine OL.nil ?_ | refine TX.thenN ?_ | refine TC.skip ?_ | refine TX.blkN ?_ | fail)
      refine TX.rd (k + 1) [] ⟨by omega, ?_⟩ (by omega)
      rw [hinv, drop_cons (by omega)]
      simp [fidx, hp]
  · refine TX.rt1 [] (.int ?_)
    rw [hinv, drop_nil (by omega)]
    rfl
theorem s_slices_ContainsFunc_Lint_int (l : List (Int)) (p : Int → Bool) : V.Spec Tryz.prog Fc.slices_ContainsFunc_Lint_int [.sl 1 none (l.map V.int), predE Tryz.prog V.int (· ∈ l) p] [] (V.bool (l.any p)) [] := by
  refine V.Spec.enter Tryz.tabOK Tryz.mixed Fn.slices_ContainsFunc_Lint_int rfl rfl rfl fun B hB => ?_
  repeat' (with_reducible first | refine OL.st ?_ | refine TC.region ?_ | refine TC.seq ?_ | refine OL.nil ?_ | refine TX.thenN ?_ | fail)
  refine OL.c (s_slices_IndexFunc_Lint_int l p) Fn.slices_IndexFunc_Lint_int ?_
  repeat' (with_reducible first | refine OL.st ?_ | refine OL.nil ?_ | refine TX.thenN ?_ | refine TC.ret ?_ | fail)
  refine TX.rt1 [] (.bool ?_)
  cases h : l.any p
  · rw [decide_eq_false]; intro h'; rw [(fidx_nonneg _ _ _).1 h'] at h; cases h
  · exact decide_eq_true ((fidx_nonneg _ _ _).2 h)
theorem s_line_keep_int (l : List Int) (p : Int → Bool) (hb : l.length ≤ 1000000000) : V.Spec Tryz.prog Fc.line_keep_int [ints l, predI Tryz.prog (· ∈ l) p] [] (.hs 0) [.gs false Tc.int 1 none ((l.filter p).map V.int)] := by
  refine V.Spec.enter Tryz.tabOK Tryz.mixed Fn.line_keep_int rfl rfl rfl fun B hB => ?_
  repeat' (with_reducible first | refine OL.st ?_ | refine TC.region ?_ | refine TC.seq ?_ | refine OL.nil ?_ | refine TX.thenN ?_ | refine TC.block ?_ | fail)
  refine TC.adp 5 Tc.int 1 ?_
  refine TC.lp (fun k : Nat => [(1, predI Tryz.prog (· ∈ l) p), (5, .hs 0), (8, ints l), (9, V.int l.length), (10, V.int k)]) (fun k => [.gs false Tc.int 1 none (((l.take k).filter p).map V.int)]) (fun k => k ≤ l.length) (fun k => l.length - k) 0 [0] (Nat.zero_le _) ?_
  rintro k hk
  have hfl : ((l.take k).filter p).length ≤ l.length := Nat.le_trans (List.length_filter_le _ _) (by simp; omega)
  repeat' (with_reducible first | refine OL.st ?_ | refine TC.region ?_ | refine TC.seq ?_ | refine OL.nil ?_ | refine TX.thenN ?_ | refine TC.block ?_ | refine TC.skip ?_ | refine TC.exit ?_ | refine TX.hit ?_ | refine TX.thenX ?_ | refine TC.ifD ?_ ?_ <;> (intro hc; try (exfalso; omega)) | refine TC.ret ?_ | fail)
  · refine OL.cf l[k] (List.getElem_mem _) ?_
    repeat' (first | (with_reducible refine OL.nil ?_) | (with_reducible refine TX.thenN ?_) | fail)
    refine TC.ifB (fun hp => ?_) (fun hp => ?_)
    · repeat' (with_reducible first | refine OL.st ?_ | refine OL.lit ?_ | refine OL.appO ?_ | refine TC.region ?_ | refine OL.nil ?_ | refine TX.thenN ?_ | refine TX.blkN ?_ | fail)
      have e : ((l.take k).filter p).map V.int ++ [V.int l[k]] = ((l.take (k + 1)).filter p).map V.int := by rw [filter_take_t (by omega) hp]; simp
      exact TX.rd (k + 1) [2] (by omega) (by omega)
    · repeat' (with_reducible first | refine OL.st ?_ | refine TC.region ?_ | refine OL.nil ?_ | refine TX.thenN ?_ | refine TC.skip ?_ | refine TX.blkN ?_ | fail)
      have e : ((l.take k).filter p).map V.int = ((l.take (k + 1)).filter p).map V.int := by rw [filter_take_f (by omega) hp]
      exact TX.rd (k + 1) [0] (by omega) (by omega)
  · rw [take_all (by omega)]
    exact TX.rt1 [0] (.ren rfl)
end Go.Proofs
namespace Go.Proofs
open Go Go.W Go.V
abbrev initA (p : Int × Int) : AV := .st [V.int p.1, V.int p.2]
abbrev initsA (l : List (Int × Int)) : AV := .sl 2 none (l.map initA)
abbrev Cls := List Int × List Int × List (Int × Int)
abbrev clsA (c : Cls) : AV := .st [ints c.1, ints c.2.1, initsA c.2.2]
abbrev clssA (l : List Cls) : AV := .sl 3 none (l.map clsA)
abbrev graphOf (l : List Cls) : List (List Int) := l.map (·.1)
theorem s_ref17_Graph (l : List Cls) (hb : l.length * 72 ≤ 140737488355328) : V.Spec Tryz.prog Fc.ref17_Graph [clssA l] [] (rows (graphOf l)) [] := by
  refine V.Spec.enter Tryz.tabOK Tryz.mixed Fn.ref17_Graph rfl rfl rfl fun B hB => ?_
  repeat' (with_reducible first | refine OL.st ?_ | refine TC.region ?_ | refine TC.seq ?_ | refine OL.nil ?_ | refine TX.thenN ?_ | refine TC.block ?_ | fail)
  refine TC.adp 3 Tc.Lint 1 ?_
  refine TC.lp (fun k : Nat => [(3, .hs 0), (6, clssA l), (7, V.int l.length), (8, V.int k)]) (fun k => [.gs false Tc.Lint 1 none ((graphOf (l.take k)).map ints)]) (fun k => k ≤ l.length) (fun k => l.length - k) 0 [0] (Nat.zero_le _) ?_
  rintro k hk
  by_cases hkl : k < l.length
  · have hlen : (graphOf (l.take k)).length = k := by simp; omega
    have e : (graphOf (l.take k)).map ints ++ [ints l[k].1] = (graphOf (l.take (k + 1))).map ints := by rw [graphOf, graphOf, take_succ hkl, List.map_append, List.map_append]; rfl
    generalize graphOf (l.take k) = gk at *
    repeat' (with_reducible first | refine OL.st ?_ | refine OL.alloc ?_ | refine OL.storeAgg ?_ | refine OL.lit ?_ | refine OL.appO ?_ | refine TC.region ?_ | refine TC.seq ?_ | refine OL.nil ?_ | refine TX.thenN ?_ | refine TC.block ?_ | refine TC.skip ?_ | refine TX.blkN ?_ | refine TC.ifD ?_ ?_ <;> (intro hc; try (exfalso; omega)) | fail)
    exact TX.rd (k + 1) [3] (by omega) (by omega)
  · rw [take_all (by omega)]
    repeat' (with_reducible first | refine OL.st ?_ | refine TC.region ?_ | refine TC.seq ?_ | refine OL.nil ?_ | refine TX.thenN ?_ | refine TC.exit ?_ | refine TX.hit ?_ | refine TX.thenX ?_ | refine TC.ifD ?_ ?_ <;> (intro hc; try (exfalso; omega)) | refine TC.ret ?_ | fail)
    refine TX.vw 2 ?_
    exact TX.rt1 [] (.ren rfl)
theorem s_ref17_Own (l : List Cls) (c : Int) (hb : l.length * 72 ≤ 140737488355328) : V.Spec Tryz.prog Fc.ref17_Own [clssA l, V.int c] [] (V.bool (decide (3 ≤ c) && decide (c < 3 + (l.length : Int)))) [] := by
  refine V.Spec.enter Tryz.tabOK Tryz.mixed Fn.ref17_Own rfl rfl rfl fun B hB => ?_
  repeat' (with_reducible first | refine OL.st ?_ | refine TC.region ?_ | refine TC.seq ?_ | refine OL.nil ?_ | refine TX.thenN ?_ | refine OL.gOn ?_ | refine OL.gOff ?_ | refine OL.gD ?_ ?_ <;> (intro hc; try (exfalso; omega)) | refine TC.ret ?_ | fail)
  all_goals refine TX.rt1 [] (.bool ?_)
  · have : 3 ≤ c := by omega
    simp [this]
  · have : ¬ 3 ≤ c := by omega
    simp [this]
def placeN : List Int → Int → Int → Int
  | [], _, _ => -1
  | x :: r, n, k => if x = n then k else placeN r n (k + 1)
theorem s_ref17_place (l : List Int) (n : Int) : V.Spec Tryz.prog Fc.ref17_place [ints l, V.int n] [] (V.int (placeN l n 0)) [] := by
  refine V.Spec.enter Tryz.tabOK Tryz.mixed Fn.ref17_place rfl rfl rfl fun B hB => ?_
  refine TC.bl 0 fun hll => ?_
  repeat' (with_reducible first | refine OL.st ?_ | refine TC.region ?_ | refine TC.seq ?_ | refine OL.nil ?_ | refine TX.thenN ?_ | refine TC.block ?_ | fail)
  refine TC.lp (fun k : Nat => [(1, V.int n), (7, ints l), (8, V.int l.length), (9, V.int k)]) (fun _ => []) (fun k => k ≤ l.length ∧ placeN l n 0 = placeN (l.drop k) n k) (fun k => l.length - k) 0 [] ⟨Nat.zero_le _, rfl⟩ ?_
  rintro k ⟨hk, hinv⟩
  by_cases hkl : k < l.length
  · rw [drop_cons hkl, placeN] at hinv
    by_cases h : l[k] = n
    · rw [if_pos h] at hinv
      repeat' (with_reducible first | refine OL.st ?_ | refine TC.region ?_ | refine TC.seq ?_ | refine OL.nil ?_ | refine TX.thenN ?_ | refine TC.block ?_ | refine TC.skip ?_ | refine TC.ifD ?_ ?_ <;> (intro hc; try (exfalso; omega)) | refine TC.ret ?_ | refine TX.thenR ?_ | refine TX.blkR ?_ | fail)
      exact TX.rt1 [] (.int hinv.symm)
    · rw [if_neg h] at hinv
      repeat' (with_reducible first | refine OL.st ?_ | refine TC.region ?_ | refine TC.seq ?_ | refine OL.nil ?_ | refine TX.thenN ?_ | refine TC.block ?_ | refine TC.skip ?_ | refine TX.blkN ?_ | refine TC.ifD ?_ ?_ <;> (intro hc; try (exfalso; omega)) | fail)
      exact TX.rd (k + 1) [] ⟨by omega, hinv⟩ (by omega)
  · rw [drop_nil (by omega), placeN] at hinv
    repeat' (with_reducible first | refine OL.st ?_ | refine TC.region ?_ | refine TC.seq ?_ | refine OL.nil ?_ | refine TX.thenN ?_ | refine TC.exit ?_ | refine TX.hit ?_ | refine TX.thenX ?_ | refine TC.ifD ?_ ?_ <;> (intro hc; try (exfalso; omega)) | refine TC.ret ?_ | fail)
    exact TX.rt1 [] (.int hinv.symm)
end Go.Proofs
namespace Go.Proofs
open Go Go.W Go.V
theorem clone_i (l : List Int) (hb : l.length * 8 ≤ 140737488355328) : V.Spec Tryz.prog Fc.slices_Clone_Lint_int [ints l] [] (ints l) [] := by
  refine V.Spec.enter Tryz.tabOK Tryz.mixed Fn.slices_Clone_Lint_int rfl rfl rfl fun B hB => ?_
  repeat' (with_reducible first | refine OL.st ?_ | refine TC.region ?_ | refine TC.seq ?_ | refine OL.nil ?_ | refine TX.thenN ?_ | fail)
  refine OL.isNil (fun h => ?_) ?_
  · repeat' (with_reducible first | refine OL.st ?_ | refine TC.region ?_ | refine TC.seq ?_ | refine OL.nil ?_ | refine TX.thenN ?_ | refine TC.ifT ?_ | refine TC.ret ?_ | refine TX.thenR ?_ | fail)
    have e : l.map V.int = [] := h
    exact TX.rt1 [] (.nil' e)
  · repeat' (with_reducible first | refine OL.st ?_ | refine OL.lit0 ?_ | refine OL.app ?_ | refine TC.region ?_ | refine TC.seq ?_ | refine OL.nil ?_ | refine TX.thenN ?_ | refine TC.skip ?_ | refine TC.ifF ?_ | refine TC.ret ?_ | fail)
    refine TX.vw 2 ?_
    exact TX.rt1 [] (.ren rfl)
theorem clone_n (l : List (Int × Int)) (hb : l.length * 16 ≤ 140737488355328) : V.Spec Tryz.prog Fc.slices_Clone_Lapi_BindInit_api_BindInit [initsA l] [] (initsA l) [] := by
  refine V.Spec.enter Tryz.tabOK Tryz.mixed Fn.slices_Clone_Lapi_BindInit_api_BindInit rfl rfl rfl fun B hB => ?_
  repeat' (with_reducible first | refine OL.st ?_ | refine TC.region ?_ | refine TC.seq ?_ | refine OL.nil ?_ | refine TX.thenN ?_ | fail)
  refine OL.isNil (fun h => ?_) ?_
  · repeat' (with_reducible first | refine OL.st ?_ | refine TC.region ?_ | refine TC.seq ?_ | refine OL.nil ?_ | refine TX.thenN ?_ | refine TC.ifT ?_ | refine TC.ret ?_ | refine TX.thenR ?_ | fail)
    have e : l.map initA = [] := h
    exact TX.rt1 [] (.nil' e)
  · repeat' (with_reducible first | refine OL.st ?_ | refine OL.lit0 ?_ | refine OL.app ?_ | refine TC.region ?_ | refine TC.seq ?_ | refine OL.nil ?_ | refine TX.thenN ?_ | refine TC.skip ?_ | refine TC.ifF ?_ | refine TC.ret ?_ | fail)
    refine TX.vw 2 ?_
    exact TX.rt1 [] (.ren rfl)
abbrev funC (P : Program) (dom : Cls → Prop) (r : Cls → AV) : AV := .pr (FunMP P dom (fun c => [clsA c]) r (fun _ => []))
theorem s_each_CL (l : List Cls) (f : Cls → List Int) (hb : l.length * 72 ≤ 140737488355328) : V.Spec Tryz.prog Fc.turn_each_api_BindClass_Lint [clssA l, funC Tryz.prog (· ∈ l) (fun c => ints (f c))] [] (rows (l.map f)) [] := by
  refine V.Spec.enter Tryz.tabOK Tryz.mixed Fn.turn_each_api_BindClass_Lint rfl rfl rfl fun B hB => ?_
  repeat' (with_reducible first | refine OL.st ?_ | refine TC.region ?_ | refine TC.seq ?_ | refine OL.nil ?_ | refine TX.thenN ?_ | refine TC.block ?_ | fail)
  refine TC.adp 5 Tc.Lint 1 ?_
  refine TC.lp (fun k : Nat => [(1, funC Tryz.prog (· ∈ l) (fun c => ints (f c))), (5, .hs 0), (8, clssA l), (9, V.int l.length), (10, V.int k)]) (fun k => [.gs false Tc.Lint 1 none (((l.take k).map f).map ints)]) (fun k => k ≤ l.length) (fun k => l.length - k) 0 [0] (Nat.zero_le _) ?_
  rintro k hk
  by_cases hkl : k < l.length
  · have hlen : ((l.take k).map f).length = k := by simp; omega
    have e : ((l.take k).map f).map ints ++ [ints (f l[k])] = ((l.take (k + 1)).map f).map ints := by rw [take_succ hkl, List.map_append, List.map_append]; rfl
    generalize (l.take k).map f = gk at *
    repeat' (with_reducible first | refine OL.st ?_ | refine OL.alloc ?_ | refine OL.storeAgg ?_ | refine TC.region ?_ | refine TC.seq ?_ | refine OL.nil ?_ | refine TX.thenN ?_ | refine TC.block ?_ | refine TC.skip ?_ | refine TC.ifD ?_ ?_ <;> (intro hc; try (exfalso; omega)) | fail)
    refine OL.cf l[k] (List.getElem_mem _) ?_
    repeat' (with_reducible first | refine OL.st ?_ | refine OL.lit ?_ | refine OL.appO ?_ | refine TC.region ?_ | refine OL.nil ?_ | refine TX.thenN ?_ | refine TX.blkN ?_ | fail)
    exact TX.rd (k + 1) [3] (by omega) (by omega)
  · rw [take_all (by omega)]
    repeat' (with_reducible first | refine OL.st ?_ | refine TC.region ?_ | refine TC.seq ?_ | refine OL.nil ?_ | refine TX.thenN ?_ | refine TC.exit ?_ | refine TX.hit ?_ | refine TX.thenX ?_ | refine TC.ifD ?_ ?_ <;> (intro hc; try (exfalso; omega)) | refine TC.ret ?_ | fail)
    refine TX.vw 4 ?_
    exact TX.rt1 [] (.ren rfl)
theorem s_turn_read_1 (c : Cls) : V.Spec Tryz.prog Fc.turn_read_1 [clsA c] [] (ints c.1) [] := by
  refine V.Spec.enter Tryz.tabOK Tryz.mixed Fn.turn_read_1 rfl rfl rfl fun B hB => ?_
  repeat' (with_reducible first | refine OL.st ?_ | refine OL.box ?_ | refine TC.region ?_ | refine TC.seq ?_ | refine OL.nil ?_ | refine TX.thenN ?_ | refine TC.ret ?_ | fail)
  exact TX.rt1 [] (.ren rfl)
theorem s_each_CC (l : List Cls) (f : Cls → Cls) (hb : l.length * 72 ≤ 140737488355328) : V.Spec Tryz.prog Fc.turn_each_api_BindClass_api_BindClass [clssA l, funC Tryz.prog (· ∈ l) (fun c => clsA (f c))] [] (clssA (l.map f)) [] := by
  refine V.Spec.enter Tryz.tabOK Tryz.mixed Fn.turn_each_api_BindClass_api_BindClass rfl rfl rfl fun B hB => ?_
  repeat' (with_reducible first | refine OL.st ?_ | refine TC.region ?_ | refine TC.seq ?_ | refine OL.nil ?_ | refine TX.thenN ?_ | refine TC.block ?_ | fail)
  refine TC.adp 5 Tc.api_BindClass 3 ?_
  refine TC.lp (fun k : Nat => [(1, funC Tryz.prog (· ∈ l) (fun c => clsA (f c))), (5, .hs 0), (8, clssA l), (9, V.int l.length), (10, V.int k)]) (fun k => [.gs false Tc.api_BindClass 3 none (((l.take k).map f).map clsA)]) (fun k => k ≤ l.length) (fun k => l.length - k) 0 [0] (Nat.zero_le _) ?_
  rintro k hk
  by_cases hkl : k < l.length
  · have hlen : ((l.take k).map f).length = k := by simp; omega
    have e : ((l.take k).map f).map clsA ++ [clsA (f l[k])] = ((l.take (k + 1)).map f).map clsA := by rw [take_succ hkl, List.map_append, List.map_append]; rfl
    generalize (l.take k).map f = gk at *
    repeat' (with_reducible first | refine OL.st ?_ | refine OL.alloc ?_ | refine OL.storeAgg ?_ | refine TC.region ?_ | refine TC.seq ?_ | refine OL.nil ?_ | refine TX.thenN ?_ | refine TC.block ?_ | refine TC.skip ?_ | refine TC.ifD ?_ ?_ <;> (intro hc; try (exfalso; omega)) | fail)
    refine OL.cf l[k] (List.getElem_mem _) ?_
    repeat' (with_reducible first | refine OL.st ?_ | refine OL.lit ?_ | refine OL.appO ?_ | refine TC.region ?_ | refine OL.nil ?_ | refine TX.thenN ?_ | refine TX.blkN ?_ | fail)
    exact TX.rd (k + 1) [3] (by omega) (by omega)
  · rw [take_all (by omega)]
    repeat' (with_reducible first | refine OL.st ?_ | refine TC.region ?_ | refine TC.seq ?_ | refine OL.nil ?_ | refine TX.thenN ?_ | refine TC.exit ?_ | refine TX.hit ?_ | refine TX.thenX ?_ | refine TC.ifD ?_ ?_ <;> (intro hc; try (exfalso; omega)) | refine TC.ret ?_ | fail)
    refine TX.vw 4 ?_
    exact TX.rt1 [] (.ren rfl)
theorem s_turn_copied (c : Cls) (h1 : c.1.length * 8 ≤ 140737488355328) (h2 : c.2.1.length * 8 ≤ 140737488355328) (h3 : c.2.2.length * 16 ≤ 140737488355328) : V.Spec Tryz.prog Fc.turn_copied [clsA c] [] (clsA c) [] := by
  refine V.Spec.enter Tryz.tabOK Tryz.mixed Fn.turn_copied rfl rfl rfl fun B hB => ?_
  repeat' (with_reducible first | refine OL.box ?_ | refine OL.alloc ?_ | refine TC.region ?_ | refine TC.seq ?_ | refine OL.nil ?_ | refine TX.thenN ?_ | fail)
  (with_reducible refine TC.draw (id := 1) true 10 11 ?_ <;> refine OD.st 0 ?_ <;> refine OD.st 1 ?_ <;> refine OD.st 3 ?_ <;> refine OD.st 4 ?_ <;> refine OD.st 6 ?_ <;> refine OD.st 7 ?_ <;> refine OD.c1 2 (clone_i c.1 h1) Fn.slices_Clone_Lint_int ?_ <;> refine OD.c1 5 (clone_i c.2.1 h2) Fn.slices_Clone_Lint_int ?_ <;> refine OD.c1 8 (clone_n c.2.2 h3) Fn.slices_Clone_Lapi_BindInit_api_BindInit ?_ <;> refine OD.s1 9 ?_ (h := gvBuild) <;> (refine OD.a1 10 ?_; refine OL.storeAgg ?_; refine OL.nil ?_; refine TX.od ?_) <;> refine OD.dn ?_)
  all_goals repeat' (first | (with_reducible refine TX.thenN ?_) | (with_reducible refine TC.ret ?_) | fail)
  all_goals exact TX.rtc [] (.ren rfl)
end Go.Proofs
namespace Go.Proofs
open Go Go.W Go.V
theorem s_ref04_SameInts (la lb : List Int) : V.Spec Tryz.prog Fc.ref04_SameInts [ints la, ints lb] [] (V.bool (la == lb)) [] := by
  refine V.Spec.enter Tryz.tabOK Tryz.mixed Fn.ref04_SameInts rfl rfl rfl fun B hB => ?_
  refine TC.bl 0 fun hla => TC.bl 1 fun hlb => ?_
  by_cases hl : la.length = lb.length
  · repeat' (with_reducible first | refine OL.st ?_ | refine TC.region ?_ | refine TC.seq ?_ | refine OL.nil ?_ | refine TX.thenN ?_ | refine TC.block ?_ | refine TC.skip ?_ | refine TC.ifD ?_ ?_ <;> (intro hc; try (exfalso; omega)) | fail)
    refine TC.lp (fun k : Nat => [(0, ints la), (1, ints lb), (12, V.int la.length), (13, V.int k)]) (fun _ => []) (fun k => k ≤ la.length ∧ la.take k = lb.take k) (fun k => la.length - k) 0 [] ⟨Nat.zero_le _, by simp⟩ ?_
    rintro k ⟨hk, hpre⟩
    by_cases hkl : k < la.length
    · by_cases he : la[k] = lb[k]
      · repeat' (first | (with_reducible first | refine OL.st ?_ | refine TC.region ?_ | refine TC.seq ?_ | refine OL.nil ?_ | refine TX.thenN ?_ | refine TC.block ?_ | refine TC.skip ?_ | refine TX.blkN ?_ | refine TC.ifD ?_ ?_ <;> (intro hc; try (exfalso; omega))) | ((with_reducible refine TC.draw (id := 6) true 9 9 ?_) <;> (with_reducible refine OD.st 0 ?_) <;> (with_reducible refine OD.st 1 ?_) <;> (with_reducible refine OD.st 2 ?_) <;> (with_reducible refine OD.st 3 ?_) <;> (with_reducible refine OD.st 4 ?_) <;> (with_reducible refine OD.st 5 ?_) <;> (with_reducible refine OD.st 6 ?_) <;> (with_reducible refine OD.st 7 ?_) <;> (with_reducible refine OD.st 8 ?_) <;> (with_reducible refine OD.dn ?_)) | fail)
        refine TX.rd (k + 1) [] ⟨by omega, ?_⟩ (by omega)
        rw [take_succ (by omega), take_succ (by omega), hpre, he]
      · repeat' (first | (with_reducible first | refine OL.st ?_ | refine TC.region ?_ | refine TC.seq ?_ | refine OL.nil ?_ | refine TX.thenN ?_ | refine TC.block ?_ | refine TC.skip ?_ | refine TC.ifD ?_ ?_ <;> (intro hc; try (exfalso; omega)) | refine TC.ret ?_ | refine TX.thenR ?_ | refine TX.blkR ?_) | ((with_reducible refine TC.draw (id := 6) true 9 9 ?_) <;> (with_reducible refine OD.st 0 ?_) <;> (with_reducible refine OD.st 1 ?_) <;> (with_reducible refine OD.st 2 ?_) <;> (with_reducible refine OD.st 3 ?_) <;> (with_reducible refine OD.st 4 ?_) <;> (with_reducible refine OD.st 5 ?_) <;> (with_reducible refine OD.st 6 ?_) <;> (with_reducible refine OD.st 7 ?_) <;> (with_reducible refine OD.st 8 ?_) <;> (with_reducible refine OD.dn ?_)) | fail)
        refine TX.rt1 [] (.bool ?_)
        have : la ≠ lb := fun e => by subst e; exact he rfl
        simp [this]
    · repeat' (with_reducible first | refine OL.st ?_ | refine TC.region ?_ | refine TC.seq ?_ | refine OL.nil ?_ | refine TX.thenN ?_ | refine TC.exit ?_ | refine TX.hit ?_ | refine TX.thenX ?_ | refine TC.ifD ?_ ?_ <;> (intro hc; try (exfalso; omega)) | refine TC.ret ?_ | fail)
      refine TX.rt1 [] (.bool ?_)
      have e : la = lb := by
        rw [← take_all (l := la) (k := k) (by omega), ← take_all (l := lb) (k := k) (by omega)]
        exact hpre
      simp [e]
  · repeat' (with_reducible first | refine OL.st ?_ | refine TC.region ?_ | refine TC.seq ?_ | refine OL.nil ?_ | refine TX.thenN ?_ | refine TC.ifD ?_ ?_ <;> (intro hc; try (exfalso; omega)) | refine TC.ret ?_ | refine TX.thenR ?_ | fail)
    refine TX.rt1 [] (.bool ?_)
    have : la ≠ lb := fun e => by subst e; exact hl rfl
    simp [this]
theorem s_ref17_SameErrs (la lb : List Int) : V.Spec Tryz.prog Fc.ref17_SameErrs [ints la, ints lb] [] (V.bool (la == lb)) [] := by
  refine V.Spec.enter Tryz.tabOK Tryz.mixed Fn.ref17_SameErrs rfl rfl rfl fun B hB => ?_
  refine TC.bl 0 fun hla => TC.bl 1 fun hlb => ?_
  by_cases hl : la.length = lb.length
  · repeat' (with_reducible first | refine OL.st ?_ | refine TC.region ?_ | refine TC.seq ?_ | refine OL.nil ?_ | refine TX.thenN ?_ | refine TC.block ?_ | refine TC.skip ?_ | refine TC.ifD ?_ ?_ <;> (intro hc; try (exfalso; omega)) | fail)
    refine TC.lp (fun k : Nat => [(0, ints la), (1, ints lb), (12, V.int la.length), (13, V.int k)]) (fun _ => []) (fun k => k ≤ la.length ∧ la.take k = lb.take k) (fun k => la.length - k) 0 [] ⟨Nat.zero_le _, by simp⟩ ?_
    rintro k ⟨hk, hpre⟩
    by_cases hkl : k < la.length
    · by_cases he : la[k] = lb[k]
      · repeat' (first | (with_reducible first | refine OL.st ?_ | refine TC.region ?_ | refine TC.seq ?_ | refine OL.nil ?_ | refine TX.thenN ?_ | refine TC.block ?_ | refine TC.skip ?_ | refine TX.blkN ?_ | refine TC.ifD ?_ ?_ <;> (intro hc; try (exfalso; omega))) | ((with_reducible refine TC.draw (id := 6) true 9 9 ?_) <;> (with_reducible refine OD.st 0 ?_) <;> (with_reducible refine OD.st 1 ?_) <;> (with_reducible refine OD.st 2 ?_) <;> (with_reducible refine OD.st 3 ?_) <;> (with_reducible refine OD.st 4 ?_) <;> (with_reducible refine OD.st 5 ?_) <;> (with_reducible refine OD.st 6 ?_) <;> (with_reducible refine OD.st 7 ?_) <;> (with_reducible refine OD.st 8 ?_) <;> (with_reducible refine OD.dn ?_)) | fail)
        refine TX.rd (k + 1) [] ⟨by omega, ?_⟩ (by omega)
        rw [take_succ (by omega), take_succ (by omega), hpre, he]
      · repeat' (first | (with_reducible first | refine OL.st ?_ | refine TC.region ?_ | refine TC.seq ?_ | refine OL.nil ?_ | refine TX.thenN ?_ | refine TC.block ?_ | refine TC.skip ?_ | refine TC.ifD ?_ ?_ <;> (intro hc; try (exfalso; omega)) | refine TC.ret ?_ | refine TX.thenR ?_ | refine TX.blkR ?_) | ((with_reducible refine TC.draw (id := 6) true 9 9 ?_) <;> (with_reducible refine OD.st 0 ?_) <;> (with_reducible refine OD.st 1 ?_) <;> (with_reducible refine OD.st 2 ?_) <;> (with_reducible refine OD.st 3 ?_) <;> (with_reducible refine OD.st 4 ?_) <;> (with_reducible refine OD.st 5 ?_) <;> (with_reducible refine OD.st 6 ?_) <;> (with_reducible refine OD.st 7 ?_) <;> (with_reducible refine OD.st 8 ?_) <;> (with_reducible refine OD.dn ?_)) | fail)
        refine TX.rt1 [] (.bool ?_)
        have : la ≠ lb := fun e => by subst e; exact he rfl
        simp [this]
    · repeat' (with_reducible first | refine OL.st ?_ | refine TC.region ?_ | refine TC.seq ?_ | refine OL.nil ?_ | refine TX.thenN ?_ | refine TC.exit ?_ | refine TX.hit ?_ | refine TX.thenX ?_ | refine TC.ifD ?_ ?_ <;> (intro hc; try (exfalso; omega)) | refine TC.ret ?_ | fail)
      refine TX.rt1 [] (.bool ?_)
      have e : la = lb := by
        rw [← take_all (l := la) (k := k) (by omega), ← take_all (l := lb) (k := k) (by omega)]
        exact hpre
      simp [e]
  · repeat' (with_reducible first | refine OL.st ?_ | refine TC.region ?_ | refine TC.seq ?_ | refine OL.nil ?_ | refine TX.thenN ?_ | refine TC.ifD ?_ ?_ <;> (intro hc; try (exfalso; omega)) | refine TC.ret ?_ | refine TX.thenR ?_ | fail)
    refine TX.rt1 [] (.bool ?_)
    have : la ≠ lb := fun e => by subst e; exact hl rfl
    simp [this]
theorem eqSI : EqS2 Tryz.prog Tc.api_BindInit 3 .i64 := ⟨by kernel_rfl, by kernel_rfl, by kernel_rfl, Tryz.underlying3, by kernel_rfl⟩
theorem s_ref05_SameInits (la lb : List (Int × Int)) : V.Spec Tryz.prog Fc.ref05_SameInits [initsA la, initsA lb] [] (V.bool (la == lb)) [] := by
  refine V.Spec.enter Tryz.tabOK Tryz.mixed Fn.ref05_SameInits rfl rfl rfl fun B hB => ?_
  refine TC.bl 0 fun hla => TC.bl 1 fun hlb => ?_
  by_cases hl : la.length = lb.length
  · repeat' (with_reducible first | refine OL.st ?_ | refine TC.region ?_ | refine TC.seq ?_ | refine OL.nil ?_ | refine TX.thenN ?_ | refine TC.block ?_ | refine TC.skip ?_ | refine TC.ifD ?_ ?_ <;> (intro hc; try (exfalso; omega)) | fail)
    refine TC.lp (fun k : Nat => [(0, initsA la), (1, initsA lb), (5, V.int k)]) (fun _ => []) (fun k => k ≤ la.length ∧ la.take k = lb.take k) (fun k => la.length - k) 0 [] ⟨Nat.zero_le _, by simp⟩ ?_
    rintro k ⟨hk, hpre⟩
    by_cases hkl : k < la.length
    · obtain ⟨a1, a2⟩ : ∃ t : Bool, t = (la[k].1 == (lb[k]'(by omega)).1 && la[k].2 == (lb[k]'(by omega)).2) := ⟨_, rfl⟩
      repeat' (with_reducible first | refine OL.st ?_ | refine TC.region ?_ | refine TC.seq ?_ | refine OL.nil ?_ | refine TX.thenN ?_ | refine TC.block ?_ | refine TC.skip ?_ | refine TC.ifD ?_ ?_ <;> (intro hc; try (exfalso; omega)) | fail)
      (with_reducible refine TC.draw (id := 6) true 8 9 ?_ <;> refine OD.st 0 ?_ <;> refine OD.st 1 ?_ <;> refine OD.st 2 ?_ <;> refine OD.st 3 ?_ <;> refine OD.st 4 ?_ <;> refine OD.st 5 ?_ <;> refine OD.st 6 ?_ <;> refine OD.st 7 ?_ <;> (refine OD.a1 8 ?_; refine OL.neS2 eqSI ?_; rw [← a2]; refine OL.nil ?_; refine TX.od ?_) <;> refine OD.dn ?_)
      repeat' (first | (with_reducible refine TX.thenN ?_) | fail)
      cases a1
      · repeat' (with_reducible first | refine OL.st ?_ | refine TC.region ?_ | refine TC.seq ?_ | refine OL.nil ?_ | refine TX.thenN ?_ | refine TC.ifT ?_ | refine TC.ret ?_ | refine TX.thenR ?_ | refine TX.blkR ?_ | fail)
        refine TX.rt1 [] (.bool ?_)
        have : la ≠ lb := fun e => by subst e; simp at a2
        simp [this]
      · have h : la[k] = lb[k]'(by omega) := by
          have := a2.symm
          simp only [Bool.and_eq_true, beq_iff_eq] at this
          exact Prod.ext this.1 this.2
        repeat' (with_reducible first | refine OL.st ?_ | refine TC.region ?_ | refine OL.nil ?_ | refine TX.thenN ?_ | refine TC.skip ?_ | refine TX.blkN ?_ | refine TC.ifF ?_ | fail)
        refine TX.rd (k + 1) [] ⟨by omega, ?_⟩ (by omega)
        rw [take_succ (by omega), take_succ (by omega), hpre, h]
    · repeat' (with_reducible first | refine OL.st ?_ | refine TC.region ?_ | refine TC.seq ?_ | refine OL.nil ?_ | refine TX.thenN ?_ | refine TC.exit ?_ | refine TX.hit ?_ | refine TX.thenX ?_ | refine TC.ifD ?_ ?_ <;> (intro hc; try (exfalso; omega)) | refine TC.ret ?_ | fail)
      refine TX.rt1 [] (.bool ?_)
      have e : la = lb := by
        rw [← take_all (l := la) (k := k) (by omega), ← take_all (l := lb) (k := k) (by omega)]
        exact hpre
      simp [e]
  · repeat' (with_reducible first | refine OL.st ?_ | refine TC.region ?_ | refine TC.seq ?_ | refine OL.nil ?_ | refine TX.thenN ?_ | refine TC.ifD ?_ ?_ <;> (intro hc; try (exfalso; omega)) | refine TC.ret ?_ | refine TX.thenR ?_ | fail)
    refine TX.rt1 [] (.bool ?_)
    have : la ≠ lb := fun e => by subst e; exact hl rfl
    simp [this]
theorem s_ref17_SameClass (a b : Cls) : V.Spec Tryz.prog Fc.ref17_SameClass [clsA a, clsA b] [] (V.bool (a == b)) [] := by
  have h1 := s_ref04_SameInts a.1 b.1
  have h2 := s_ref04_SameInts a.2.1 b.2.1
  have h3 := s_ref05_SameInits a.2.2 b.2.2
  have e : (a == b) = ((a.1 == b.1) && ((a.2.1 == b.2.1) && (a.2.2 == b.2.2))) := rfl
  rw [e]
  refine V.Spec.enter Tryz.tabOK Tryz.mixed Fn.ref17_SameClass rfl rfl rfl fun B hB => ?_
  repeat' (with_reducible first | refine OL.st ?_ | refine OL.box ?_ | refine TC.region ?_ | refine TC.seq ?_ | refine OL.nil ?_ | refine TX.thenN ?_ | fail)
  refine OL.c h1 Fn.ref04_SameInts ?_
  cases a.1 == b.1
  · repeat' (with_reducible first | refine OL.st ?_ | refine OL.nil ?_ | refine TX.thenN ?_ | refine OL.gOff ?_ | refine TC.ret ?_ | fail)
    refine TX.rt1 [] (.bool ?_)
    simp
  · repeat' (first | (with_reducible refine OL.st ?_) | (with_reducible refine OL.gOn ?_) | fail)
    refine OL.c h2 Fn.ref04_SameInts ?_
    cases a.2.1 == b.2.1
    · repeat' (with_reducible first | refine OL.st ?_ | refine OL.nil ?_ | refine TX.thenN ?_ | refine OL.gOff ?_ | refine TC.ret ?_ | fail)
      refine TX.rt1 [] (.bool ?_)
      simp
    · repeat' (first | (with_reducible refine OL.st ?_) | (with_reducible refine OL.gOn ?_) | fail)
      refine OL.c h3 Fn.ref05_SameInits ?_
      repeat' (with_reducible first | refine OL.st ?_ | refine OL.nil ?_ | refine TX.thenN ?_ | refine TC.ret ?_ | fail)
      refine TX.rt1 [] (.bool ?_)
      simp
end Go.Proofs
namespace Go.Proofs
open Go Go.W Go.V
theorem s_ref17_Class (c : Cls) (h1 : c.1.length * 8 ≤ 140737488355328) (h2 : c.2.1.length * 8 ≤ 140737488355328) (h3 : c.2.2.length * 16 ≤ 140737488355328) : V.Spec Tryz.prog Fc.ref17_Class [clsA c] [] (clsA c) [] := by
  refine V.Spec.enter Tryz.tabOK Tryz.mixed Fn.ref17_Class rfl rfl rfl fun B hB => ?_
  repeat' (with_reducible first | refine OL.box ?_ | refine OL.alloc ?_ | refine TC.region ?_ | refine TC.seq ?_ | refine OL.nil ?_ | refine TX.thenN ?_ | fail)
  (with_reducible refine TC.draw (id := 1) false 11 11 ?_ <;> refine OD.st 0 ?_ <;> refine OD.st 3 ?_ <;> refine OD.st 6 ?_ <;> refine OD.n3 1 4 7 ?_ ?_ ?_ <;> (first | refine NextBy.at 1 ?_ <;> refine NextBy.s ?_ <;> refine OD.n3 2 4 7 ?_ ?_ ?_ <;> (first | refine NextBy.at 2 ?_ <;> (refine NextBy.a ?_; refine OL.app0 ?_; refine OL.nil ?_; refine TX.od ?_) <;> refine OD.n2 4 7 ?_ ?_ <;> (first | refine NextBy.at 4 ?_ <;> refine NextBy.s ?_ <;> refine OD.n2 5 7 ?_ ?_ <;> (first | refine NextBy.at 5 ?_ <;> (refine NextBy.a ?_; refine OL.app0 ?_; refine OL.nil ?_; refine TX.od ?_) <;> refine OD.s1 7 ?_ <;> (refine OD.a1 8 ?_; refine OL.app0 ?_; refine OL.nil ?_; refine TX.od ?_) <;> (refine OD.a1 9 ?_; refine OL.vw 5 ?_; refine OL.vw 8 ?_; refine OL.vw 11 ?_; refine OL.build ?_; refine OL.nil ?_; refine TX.od ?_) <;> (refine OD.a1 10 ?_; refine OL.storeAgg ?_; refine OL.nil ?_; refine TX.od ?_) <;> refine OD.dn ?_ | refine NextBy.at 7 ?_ <;> refine NextBy.s ?_ <;> (refine OD.a1 5 ?_; refine OL.app0 ?_; refine OL.nil ?_; refine TX.od ?_) <;> (refine OD.a1 8 ?_; refine OL.app0 ?_; refine OL.nil ?_; refine TX.od ?_) <;> (refine OD.a1 9 ?_; refine OL.vw 5 ?_; refine OL.vw 8 ?_; refine OL.vw 11 ?_; refine OL.build ?_; refine OL.nil ?_; refine TX.od ?_) <;> (refine OD.a1 10 ?_; refine OL.storeAgg ?_; refine OL.nil ?_; refine TX.od ?_) <;> refine OD.dn ?_) | refine NextBy.at 7 ?_ <;> refine NextBy.s ?_ <;> refine OD.s1 4 ?_ <;> (refine OD.a1 5 ?_; refine OL.app0 ?_; refine OL.nil ?_; refine TX.od ?_) <;> (refine OD.a1 8 ?_; refine OL.app0 ?_; refine OL.nil ?_; refine TX.od ?_) <;> (refine OD.a1 9 ?_; refine OL.vw 5 ?_; refine OL.vw 8 ?_; refine OL.vw 11 ?_; refine OL.build ?_; refine OL.nil ?_; refine TX.od ?_) <;> (refine OD.a1 10 ?_; refine OL.storeAgg ?_; refine OL.nil ?_; refine TX.od ?_) <;> refine OD.dn ?_) | refine NextBy.at 4 ?_ <;> refine NextBy.s ?_ <;> refine OD.n2 2 7 ?_ ?_ <;> (first | refine NextBy.at 2 ?_ <;> (refine NextBy.a ?_; refine OL.app0 ?_; refine OL.nil ?_; refine TX.od ?_) <;> refine OD.n2 5 7 ?_ ?_ <;> (first | refine NextBy.at 5 ?_ <;> (refine NextBy.a ?_; refine OL.app0 ?_; refine OL.nil ?_; refine TX.od ?_) <;> refine OD.s1 7 ?_ <;> (refine OD.a1 8 ?_; refine OL.app0 ?_; refine OL.nil ?_; refine TX.od ?_) <;> (refine OD.a1 9 ?_; refine OL.vw 5 ?_; refine OL.vw 8 ?_; refine OL.vw 11 ?_; refine OL.build ?_; refine OL.nil ?_; refine TX.od ?_) <;> (refine OD.a1 10 ?_; refine OL.storeAgg ?_; refine OL.nil ?_; refine TX.od ?_) <;> refine OD.dn ?_ | refine NextBy.at 7 ?_ <;> refine NextBy.s ?_ <;> (refine OD.a1 5 ?_; refine OL.app0 ?_; refine OL.nil ?_; refine TX.od ?_) <;> (refine OD.a1 8 ?_; refine OL.app0 ?_; refine OL.nil ?_; refine TX.od ?_) <;> (refine OD.a1 9 ?_; refine OL.vw 5 ?_; refine OL.vw 8 ?_; refine OL.vw 11 ?_; refine OL.build ?_; refine OL.nil ?_; refine TX.od ?_) <;> (refine OD.a1 10 ?_; refine OL.storeAgg ?_; refine OL.nil ?_; refine TX.od ?_) <;> refine OD.dn ?_) | refine NextBy.at 7 ?_ <;> refine NextBy.s ?_ <;> (refine OD.a1 2 ?_; refine OL.app0 ?_; refine OL.nil ?_; refine TX.od ?_) <;> (refine OD.a1 5 ?_; refine OL.app0 ?_; refine OL.nil ?_; refine TX.od ?_) <;> (refine OD.a1 8 ?_; refine OL.app0 ?_; refine OL.nil ?_; refine TX.od ?_) <;> (refine OD.a1 9 ?_; refine OL.vw 5 ?_; refine OL.vw 8 ?_; refine OL.vw 11 ?_; refine OL.build ?_; refine OL.nil ?_; refine TX.od ?_) <;> (refine OD.a1 10 ?_; refine OL.storeAgg ?_; refine OL.nil ?_; refine TX.od ?_) <;> refine OD.dn ?_) | refine NextBy.at 7 ?_ <;> refine NextBy.s ?_ <;> refine OD.n2 2 4 ?_ ?_ <;> (first | refine NextBy.at 2 ?_ <;> (refine NextBy.a ?_; refine OL.app0 ?_; refine OL.nil ?_; refine TX.od ?_) <;> refine OD.s1 4 ?_ <;> (refine OD.a1 5 ?_; refine OL.app0 ?_; refine OL.nil ?_; refine TX.od ?_) <;> (refine OD.a1 8 ?_; refine OL.app0 ?_; refine OL.nil ?_; refine TX.od ?_) <;> (refine OD.a1 9 ?_; refine OL.vw 5 ?_; refine OL.vw 8 ?_; refine OL.vw 11 ?_; refine OL.build ?_; refine OL.nil ?_; refine TX.od ?_) <;> (refine OD.a1 10 ?_; refine OL.storeAgg ?_; refine OL.nil ?_; refine TX.od ?_) <;> refine OD.dn ?_ | refine NextBy.at 4 ?_ <;> refine NextBy.s ?_ <;> (refine OD.a1 2 ?_; refine OL.app0 ?_; refine OL.nil ?_; refine TX.od ?_) <;> (refine OD.a1 5 ?_; refine OL.app0 ?_; refine OL.nil ?_; refine TX.od ?_) <;> (refine OD.a1 8 ?_; refine OL.app0 ?_; refine OL.nil ?_; refine TX.od ?_) <;> (refine OD.a1 9 ?_; refine OL.vw 5 ?_; refine OL.vw 8 ?_; refine OL.vw 11 ?_; refine OL.build ?_; refine OL.nil ?_; refine TX.od ?_) <;> (refine OD.a1 10 ?_; refine OL.storeAgg ?_; refine OL.nil ?_; refine TX.od ?_) <;> refine OD.dn ?_)) | refine NextBy.at 4 ?_ <;> refine NextBy.s ?_ <;> refine OD.n2 1 7 ?_ ?_ <;> (first | refine NextBy.at 1 ?_ <;> refine NextBy.s ?_ <;> refine OD.n2 2 7 ?_ ?_ <;> (first | refine NextBy.at 2 ?_ <;> (refine NextBy.a ?_; refine OL.app0 ?_; refine OL.nil ?_; refine TX.od ?_) <;> refine OD.n2 5 7 ?_ ?_ <;> (first | refine NextBy.at 5 ?_ <;> (refine NextBy.a ?_; refine OL.app0 ?_; refine OL.nil ?_; refine TX.od ?_) <;> refine OD.s1 7 ?_ <;> (refine OD.a1 8 ?_; refine OL.app0 ?_; refine OL.nil ?_; refine TX.od ?_) <;> (refine OD.a1 9 ?_; refine OL.vw 5 ?_; refine OL.vw 8 ?_; refine OL.vw 11 ?_; refine OL.build ?_; refine OL.nil ?_; refine TX.od ?_) <;> (refine OD.a1 10 ?_; refine OL.storeAgg ?_; refine OL.nil ?_; refine TX.od ?_) <;> refine OD.dn ?_ | refine NextBy.at 7 ?_ <;> refine NextBy.s ?_ <;> (refine OD.a1 5 ?_; refine OL.app0 ?_; refine OL.nil ?_; refine TX.od ?_) <;> (refine OD.a1 8 ?_; refine OL.app0 ?_; refine OL.nil ?_; refine TX.od ?_) <;> (refine OD.a1 9 ?_; refine OL.vw 5 ?_; refine OL.vw 8 ?_; refine OL.vw 11 ?_; refine OL.build ?_; refine OL.nil ?_; refine TX.od ?_) <;> (refine OD.a1 10 ?_; refine OL.storeAgg ?_; refine OL.nil ?_; refine TX.od ?_) <;> refine OD.dn ?_) | refine NextBy.at 7 ?_ <;> refine NextBy.s ?_ <;> (refine OD.a1 2 ?_; refine OL.app0 ?_; refine OL.nil ?_; refine TX.od ?_) <;> (refine OD.a1 5 ?_; refine OL.app0 ?_; refine OL.nil ?_; refine TX.od ?_) <;> (refine OD.a1 8 ?_; refine OL.app0 ?_; refine OL.nil ?_; refine TX.od ?_) <;> (refine OD.a1 9 ?_; refine OL.vw 5 ?_; refine OL.vw 8 ?_; refine OL.vw 11 ?_; refine OL.build ?_; refine OL.nil ?_; refine TX.od ?_) <;> (refine OD.a1 10 ?_; refine OL.storeAgg ?_; refine OL.nil ?_; refine TX.od ?_) <;> refine OD.dn ?_) | refine NextBy.at 7 ?_ <;> refine NextBy.s ?_ <;> refine OD.s1 1 ?_ <;> (refine OD.a1 2 ?_; refine OL.app0 ?_; refine OL.nil ?_; refine TX.od ?_) <;> (refine OD.a1 5 ?_; refine OL.app0 ?_; refine OL.nil ?_; refine TX.od ?_) <;> (refine OD.a1 8 ?_; refine OL.app0 ?_; refine OL.nil ?_; refine TX.od ?_) <;> (refine OD.a1 9 ?_; refine OL.vw 5 ?_; refine OL.vw 8 ?_; refine OL.vw 11 ?_; refine OL.build ?_; refine OL.nil ?_; refine TX.od ?_) <;> (refine OD.a1 10 ?_; refine OL.storeAgg ?_; refine OL.nil ?_; refine TX.od ?_) <;> refine OD.dn ?_) | refine NextBy.at 7 ?_ <;> refine NextBy.s ?_ <;> refine OD.n2 1 4 ?_ ?_ <;> (first | refine NextBy.at 1 ?_ <;> refine NextBy.s ?_ <;> refine OD.n2 2 4 ?_ ?_ <;> (first | refine NextBy.at 2 ?_ <;> (refine NextBy.a ?_; refine OL.app0 ?_; refine OL.nil ?_; refine TX.od ?_) <;> refine OD.s1 4 ?_ <;> (refine OD.a1 5 ?_; refine OL.app0 ?_; refine OL.nil ?_; refine TX.od ?_) <;> (refine OD.a1 8 ?_; refine OL.app0 ?_; refine OL.nil ?_; refine TX.od ?_) <;> (refine OD.a1 9 ?_; refine OL.vw 5 ?_; refine OL.vw 8 ?_; refine OL.vw 11 ?_; refine OL.build ?_; refine OL.nil ?_; refine TX.od ?_) <;> (refine OD.a1 10 ?_; refine OL.storeAgg ?_; refine OL.nil ?_; refine TX.od ?_) <;> refine OD.dn ?_ | refine NextBy.at 4 ?_ <;> refine NextBy.s ?_ <;> (refine OD.a1 2 ?_; refine OL.app0 ?_; refine OL.nil ?_; refine TX.od ?_) <;> (refine OD.a1 5 ?_; refine OL.app0 ?_; refine OL.nil ?_; refine TX.od ?_) <;> (refine OD.a1 8 ?_; refine OL.app0 ?_; refine OL.nil ?_; refine TX.od ?_) <;> (refine OD.a1 9 ?_; refine OL.vw 5 ?_; refine OL.vw 8 ?_; refine OL.vw 11 ?_; refine OL.build ?_; refine OL.nil ?_; refine TX.od ?_) <;> (refine OD.a1 10 ?_; refine OL.storeAgg ?_; refine OL.nil ?_; refine TX.od ?_) <;> refine OD.dn ?_) | refine NextBy.at 4 ?_ <;> refine NextBy.s ?_ <;> refine OD.s1 1 ?_ <;> (refine OD.a1 2 ?_; refine OL.app0 ?_; refine OL.nil ?_; refine TX.od ?_) <;> (refine OD.a1 5 ?_; refine OL.app0 ?_; refine OL.nil ?_; refine TX.od ?_) <;> (refine OD.a1 8 ?_; refine OL.app0 ?_; refine OL.nil ?_; refine TX.od ?_) <;> (refine OD.a1 9 ?_; refine OL.vw 5 ?_; refine OL.vw 8 ?_; refine OL.vw 11 ?_; refine OL.build ?_; refine OL.nil ?_; refine TX.od ?_) <;> (refine OD.a1 10 ?_; refine OL.storeAgg ?_; refine OL.nil ?_; refine TX.od ?_) <;> refine OD.dn ?_)))
  all_goals repeat' (first | (with_reducible refine TX.thenN ?_) | (with_reducible refine TC.ret ?_) | fail)
  all_goals exact TX.rtc [] (.ren rfl)
theorem s_ref17_SameClasses (la lb : List Cls) : V.Spec Tryz.prog Fc.ref17_SameClasses [clssA la, clssA lb] [] (V.bool (la == lb)) [] := by
  refine V.Spec.enter Tryz.tabOK Tryz.mixed Fn.ref17_SameClasses rfl rfl rfl fun B hB => ?_
  refine TC.bl 0 fun hla => TC.bl 1 fun hlb => ?_
  by_cases hl : la.length = lb.length
  · repeat' (with_reducible first | refine OL.st ?_ | refine TC.region ?_ | refine TC.seq ?_ | refine OL.nil ?_ | refine TX.thenN ?_ | refine TC.block ?_ | refine TC.skip ?_ | refine TC.ifD ?_ ?_ <;> (intro hc; try (exfalso; omega)) | fail)
    refine TC.lp (fun k : Nat => [(0, clssA la), (1, clssA lb), (12, V.int la.length), (13, V.int k)]) (fun _ => []) (fun k => k ≤ la.length ∧ la.take k = lb.take k) (fun k => la.length - k) 0 [] ⟨Nat.zero_le _, by simp⟩ ?_
    rintro k ⟨hk, hpre⟩
    by_cases hkl : k < la.length
    · have hs := s_ref17_SameClass la[k] (lb[k]'(by omega))
      repeat' (with_reducible first | refine OL.st ?_ | refine TC.region ?_ | refine TC.seq ?_ | refine OL.nil ?_ | refine TX.thenN ?_ | refine TC.block ?_ | refine TC.skip ?_ | refine TC.ifD ?_ ?_ <;> (intro hc; try (exfalso; omega)) | fail)
      (with_reducible refine TC.draw (id := 6) true 10 10 ?_ <;> refine OD.st 0 ?_ <;> refine OD.st 1 ?_ <;> refine OD.st 2 ?_ <;> refine OD.st 3 ?_ <;> refine OD.st 4 ?_ <;> refine OD.st 5 ?_ <;> refine OD.st 6 ?_ <;> refine OD.st 7 ?_ <;> refine OD.c1 8 hs Fn.ref17_SameClass ?_ <;> refine OD.st 9 ?_ <;> refine OD.dn ?_)
      repeat' (first | (with_reducible refine TX.thenN ?_) | fail)
      cases he : la[k] == (lb[k]'(by omega))
      · repeat' (with_reducible first | refine OL.st ?_ | refine TC.region ?_ | refine TC.seq ?_ | refine OL.nil ?_ | refine TX.thenN ?_ | refine TC.ifT ?_ | refine TC.ret ?_ | refine TX.thenR ?_ | refine TX.blkR ?_ | fail)
        refine TX.rt1 [] (.bool ?_)
        have : la ≠ lb := fun e => by subst e; simp at he
        simp [this]
      · repeat' (with_reducible first | refine OL.st ?_ | refine TC.region ?_ | refine OL.nil ?_ | refine TX.thenN ?_ | refine TC.skip ?_ | refine TX.blkN ?_ | refine TC.ifF ?_ | fail)
        refine TX.rd (k + 1) [] ⟨by omega, ?_⟩ (by omega)
        rw [take_succ (by omega), take_succ (by omega), hpre, eq_of_beq he]
    · repeat' (with_reducible first | refine OL.st ?_ | refine TC.region ?_ | refine TC.seq ?_ | refine OL.nil ?_ | refine TX.thenN ?_ | refine TC.exit ?_ | refine TX.hit ?_ | refine TX.thenX ?_ | refine TC.ifD ?_ ?_ <;> (intro hc; try (exfalso; omega)) | refine TC.ret ?_ | fail)
      refine TX.rt1 [] (.bool ?_)
      have e : la = lb := by
        rw [← take_all (l := la) (k := k) (by omega), ← take_all (l := lb) (k := k) (by omega)]
        exact hpre
      simp [e]
  · repeat' (with_reducible first | refine OL.st ?_ | refine TC.region ?_ | refine TC.seq ?_ | refine OL.nil ?_ | refine TX.thenN ?_ | refine TC.ifD ?_ ?_ <;> (intro hc; try (exfalso; omega)) | refine TC.ret ?_ | refine TX.thenR ?_ | fail)
    refine TX.rt1 [] (.bool ?_)
    have : la ≠ lb := fun e => by subst e; exact hl rfl
    simp [this]
def Short (l : List Cls) : Prop := l.length * 72 ≤ 140737488355328 ∧ ∀ c ∈ l, c.1.length * 8 ≤ 140737488355328 ∧ c.2.1.length * 8 ≤ 140737488355328 ∧ c.2.2.length * 16 ≤ 140737488355328
theorem s_ref17_Classes (l : List Cls) (hs : Short l) : V.Spec Tryz.prog Fc.ref17_Classes [clssA l] [] (clssA l) [] := by
  obtain ⟨hb, hc0⟩ := hs
  refine V.Spec.enter Tryz.tabOK Tryz.mixed Fn.ref17_Classes rfl rfl rfl fun B hB => ?_
  repeat' (with_reducible first | refine OL.st ?_ | refine TC.region ?_ | refine TC.seq ?_ | refine OL.nil ?_ | refine TX.thenN ?_ | refine TC.block ?_ | fail)
  refine TC.adp 3 Tc.api_BindClass 3 ?_
  refine TC.lp (fun k : Nat => [(3, .hs 0), (6, clssA l), (7, V.int l.length), (8, V.int k)]) (fun k => [.gs false Tc.api_BindClass 3 none ((l.take k).map clsA)]) (fun k => k ≤ l.length) (fun k => l.length - k) 0 [0] (Nat.zero_le _) ?_
  rintro k hk
  by_cases hkl : k < l.length
  · obtain ⟨b1, b2, b3⟩ := hc0 l[k] (List.getElem_mem _)
    have hcl := s_ref17_Class l[k] b1 b2 b3
    have hlen : (l.take k).length = k := by simp; omega
    have e : (l.take k).map clsA ++ [clsA l[k]] = (l.take (k + 1)).map clsA := by rw [take_succ hkl, List.map_append]; rfl
    generalize l.take k = gk at *
    repeat' (with_reducible first | refine OL.st ?_ | refine OL.alloc ?_ | refine OL.storeAgg ?_ | refine TC.region ?_ | refine TC.seq ?_ | refine OL.nil ?_ | refine TX.thenN ?_ | refine TC.block ?_ | refine TC.skip ?_ | refine TC.ifD ?_ ?_ <;> (intro hc; try (exfalso; omega)) | fail)
    refine OL.c hcl Fn.ref17_Class ?_
    repeat' (with_reducible first | refine OL.st ?_ | refine OL.lit ?_ | refine OL.appO ?_ | refine TC.region ?_ | refine OL.nil ?_ | refine TX.thenN ?_ | refine TX.blkN ?_ | fail)
    exact TX.rd (k + 1) [3] (by omega) (by omega)
  · rw [take_all (by omega)]
    repeat' (with_reducible first | refine OL.st ?_ | refine TC.region ?_ | refine TC.seq ?_ | refine OL.nil ?_ | refine TX.thenN ?_ | refine TC.exit ?_ | refine TX.hit ?_ | refine TX.thenX ?_ | refine TC.ifD ?_ ?_ <;> (intro hc; try (exfalso; omega)) | refine TC.ret ?_ | fail)
    refine TX.vw 2 ?_
    exact TX.rt1 [] (.ren rfl)
end Go.Proofs
namespace Go.Proofs
open Go Go.W Go.V
abbrev valA (v : Int × Int) : AV := .st [V.int v.1, V.int v.2]
abbrev valsA (l : List (Int × Int)) : AV := .sl 2 none (l.map valA)
theorem eqMV : EqD2 Tryz.prog Tc.api_MeanVal Tc.api_MeanKind 3 .i64 := ⟨by kernel_rfl, by kernel_rfl, by kernel_rfl, by kernel_rfl, Tryz.underlying3, by kernel_rfl⟩
theorem s_ref17_SameVals (la lb : List (Int × Int)) : V.Spec Tryz.prog Fc.ref17_SameVals [valsA la, valsA lb] [] (V.bool (la == lb)) [] := by
  refine V.Spec.enter Tryz.tabOK Tryz.mixed Fn.ref17_SameVals rfl rfl rfl fun B hB => ?_
  refine TC.bl 0 fun hla => TC.bl 1 fun hlb => ?_
  by_cases hl : la.length = lb.length
  · repeat' (with_reducible first | refine OL.st ?_ | refine TC.region ?_ | refine TC.seq ?_ | refine OL.nil ?_ | refine TX.thenN ?_ | refine TC.block ?_ | refine TC.skip ?_ | refine TC.ifD ?_ ?_ <;> (intro hc; try (exfalso; omega)) | fail)
    refine TC.lp (fun k : Nat => [(0, valsA la), (1, valsA lb), (12, V.int la.length), (13, V.int k)]) (fun _ => []) (fun k => k ≤ la.length ∧ la.take k = lb.take k) (fun k => la.length - k) 0 [] ⟨Nat.zero_le _, by simp⟩ ?_
    rintro k ⟨hk, hpre⟩
    by_cases hkl : k < la.length
    · obtain ⟨a1, a2⟩ : ∃ t : Bool, t = (la[k].1 == (lb[k]'(by omega)).1 && la[k].2 == (lb[k]'(by omega)).2) := ⟨_, rfl⟩
      repeat' (with_reducible first | refine OL.st ?_ | refine TC.region ?_ | refine TC.seq ?_ | refine OL.nil ?_ | refine TX.thenN ?_ | refine TC.block ?_ | refine TC.skip ?_ | refine TC.ifD ?_ ?_ <;> (intro hc; try (exfalso; omega)) | fail)
      (with_reducible refine TC.draw (id := 6) true 8 9 ?_ <;> refine OD.st 0 ?_ <;> refine OD.st 1 ?_ <;> refine OD.st 2 ?_ <;> refine OD.st 3 ?_ <;> refine OD.st 4 ?_ <;> refine OD.st 5 ?_ <;> refine OD.st 6 ?_ <;> refine OD.st 7 ?_ <;> (refine OD.a1 8 ?_; refine OL.neD2 eqMV ?_; rw [← a2]; refine OL.nil ?_; refine TX.od ?_) <;> refine OD.dn ?_)
      repeat' (first | (with_reducible refine TX.thenN ?_) | fail)
      cases a1
      · repeat' (with_reducible first | refine OL.st ?_ | refine TC.region ?_ | refine TC.seq ?_ | refine OL.nil ?_ | refine TX.thenN ?_ | refine TC.ifT ?_ | refine TC.ret ?_ | refine TX.thenR ?_ | refine TX.blkR ?_ | fail)
        refine TX.rt1 [] (.bool ?_)
        have : la ≠ lb := fun e => by subst e; simp at a2
        simp [this]
      · have h : la[k] = lb[k]'(by omega) := by
          have := a2.symm
          simp only [Bool.and_eq_true, beq_iff_eq] at this
          exact Prod.ext this.1 this.2
        repeat' (with_reducible first | refine OL.st ?_ | refine TC.region ?_ | refine OL.nil ?_ | refine TX.thenN ?_ | refine TC.skip ?_ | refine TX.blkN ?_ | refine TC.ifF ?_ | fail)
        refine TX.rd (k + 1) [] ⟨by omega, ?_⟩ (by omega)
        rw [take_succ (by omega), take_succ (by omega), hpre, h]
    · repeat' (with_reducible first | refine OL.st ?_ | refine TC.region ?_ | refine TC.seq ?_ | refine OL.nil ?_ | refine TX.thenN ?_ | refine TC.exit ?_ | refine TX.hit ?_ | refine TX.thenX ?_ | refine TC.ifD ?_ ?_ <;> (intro hc; try (exfalso; omega)) | refine TC.ret ?_ | fail)
      refine TX.rt1 [] (.bool ?_)
      have e : la = lb := by
        rw [← take_all (l := la) (k := k) (by omega), ← take_all (l := lb) (k := k) (by omega)]
        exact hpre
      simp [e]
  · repeat' (with_reducible first | refine OL.st ?_ | refine TC.region ?_ | refine TC.seq ?_ | refine OL.nil ?_ | refine TX.thenN ?_ | refine TC.ifD ?_ ?_ <;> (intro hc; try (exfalso; omega)) | refine TC.ret ?_ | refine TX.thenR ?_ | fail)
    refine TX.rt1 [] (.bool ?_)
    have : la ≠ lb := fun e => by subst e; exact hl rfl
    simp [this]
abbrev Thing := Int × Int × List (Int × Int)
abbrev thingA (x : Thing) : AV := .st [V.int x.1, V.int x.2.1, valsA x.2.2]
abbrev thingsA (l : List Thing) : AV := .sl 3 none (l.map thingA)
theorem s_ref17_SameThing (a b : Thing) : V.Spec Tryz.prog Fc.ref17_SameThing [thingA a, thingA b] [] (V.bool (a == b)) [] := by
  have h3 := s_ref17_SameVals a.2.2 b.2.2
  have e : (a == b) = ((a.1 == b.1) && ((a.2.1 == b.2.1) && (a.2.2 == b.2.2))) := rfl
  rw [e]
  refine V.Spec.enter Tryz.tabOK Tryz.mixed Fn.ref17_SameThing rfl rfl rfl fun B hB => ?_
  by_cases h1 : a.1 = b.1
  · by_cases h2 : a.2.1 = b.2.1
    · repeat' (with_reducible first | refine OL.st ?_ | refine OL.box ?_ | refine TC.region ?_ | refine TC.seq ?_ | refine OL.nil ?_ | refine TX.thenN ?_ | refine OL.gOn ?_ | refine OL.gD ?_ ?_ <;> (intro hc; try (exfalso; omega)) | fail)
      refine OL.c h3 Fn.ref17_SameVals ?_
      repeat' (with_reducible first | refine OL.st ?_ | refine OL.nil ?_ | refine TX.thenN ?_ | refine TC.ret ?_ | fail)
      refine TX.rt1 [] (.bool ?_)
      simp [h1, h2]
    · repeat' (with_reducible first | refine OL.st ?_ | refine OL.box ?_ | refine TC.region ?_ | refine TC.seq ?_ | refine OL.nil ?_ | refine TX.thenN ?_ | refine OL.gOn ?_ | refine OL.gOff ?_ | refine OL.gD ?_ ?_ <;> (intro hc; try (exfalso; omega)) | refine TC.ret ?_ | fail)
      refine TX.rt1 [] (.bool ?_)
      simp [h2]
  · repeat' (with_reducible first | refine OL.st ?_ | refine OL.box ?_ | refine TC.region ?_ | refine TC.seq ?_ | refine OL.nil ?_ | refine TX.thenN ?_ | refine OL.gOff ?_ | refine OL.gD ?_ ?_ <;> (intro hc; try (exfalso; omega)) | refine TC.ret ?_ | fail)
    refine TX.rt1 [] (.bool ?_)
    simp [h1]
end Go.Proofs
namespace Go.Proofs
open Go Go.W Go.V
abbrev Wld := Bool × List (List Cls) × List Thing
abbrev schsA (l : List (List Cls)) : AV := .sl 1 none (l.map clssA)
abbrev wldA (w : Wld) : AV := .st [V.bool w.1, schsA w.2.1, thingsA w.2.2]
set_option maxHeartbeats 1000000 in
theorem sameBut (la lb : Bool) (sa sb : List (List Cls)) (ta tb : List Thing) : V.Spec Tryz.prog Fc.ref17_SameBut [.st [V.bool la, schsA sa, thingsA ta], .st [V.bool lb, schsA sb, thingsA tb]] [] (V.bool (sa == sb && ta == tb)) [] := by
  refine V.Spec.enter Tryz.tabOK Tryz.mixed Fn.ref17_SameBut rfl rfl rfl fun B hB => ?_
  by_cases hl : sa.length = sb.length
  · by_cases ht : ta.length = tb.length
    · repeat' (with_reducible first | refine OL.st ?_ | refine OL.box ?_ | refine TC.region ?_ | refine TC.seq ?_ | refine OL.nil ?_ | refine TX.thenN ?_ | refine TC.block ?_ | refine TC.skip ?_ | refine OL.gOn ?_ | refine TC.ifD ?_ ?_ <;> (intro hc; try (exfalso; omega)) | refine OL.gD ?_ ?_ <;> (intro hc; try (exfalso; omega)) | fail)
      refine TC.bl 24 fun hsl => ?_
      refine TC.lp (fun k : Nat => [(2, .bp 0 0), (3, .bp 1 0), (25, V.int sa.length), (26, V.int k)]) (fun _ => [.cb Tc.api_TurnWorld [V.bool la, schsA sa, thingsA ta], .cb Tc.api_TurnWorld [V.bool lb, schsA sb, thingsA tb]]) (fun k => k ≤ sa.length ∧ sa.take k = sb.take k) (fun k => sa.length - k) 0 [0, 1] ⟨Nat.zero_le _, by simp⟩ ?_
      rintro k ⟨hk, hpre⟩
      by_cases hkl : k < sa.length
      · have hs := s_ref17_SameClasses sa[k] (sb[k]'(by omega))
        repeat' (with_reducible first | refine OL.st ?_ | refine TC.region ?_ | refine TC.seq ?_ | refine OL.nil ?_ | refine TX.thenN ?_ | refine TC.block ?_ | refine TC.skip ?_ | refine TC.ifD ?_ ?_ <;> (intro hc; try (exfalso; omega)) | fail)
        (with_reducible refine TC.draw (id := 6) true 12 12 ?_ <;> refine OD.st 0 ?_ <;> refine OD.st 1 ?_ <;> refine OD.st 2 ?_ <;> refine OD.st 3 ?_ <;> refine OD.st 4 ?_ <;> refine OD.st 5 ?_ <;> refine OD.st 6 ?_ <;> refine OD.st 7 ?_ <;> refine OD.st 8 ?_ <;> refine OD.st 9 ?_ <;> refine OD.c1 10 hs Fn.ref17_SameClasses ?_ <;> refine OD.st 11 ?_ <;> refine OD.dn ?_)
        repeat' (first | (with_reducible refine TX.thenN ?_) | fail)
        cases he : sa[k] == (sb[k]'(by omega))
        · repeat' (with_reducible first | refine OL.st ?_ | refine TC.region ?_ | refine TC.seq ?_ | refine OL.nil ?_ | refine TX.thenN ?_ | refine TC.ifT ?_ | refine TC.ret ?_ | refine TX.thenR ?_ | refine TX.blkR ?_ | fail)
          refine TX.rt1 [] (.bool ?_)
          have : sa ≠ sb := fun e => by subst e; simp at he
          simp [this]
        · repeat' (with_reducible first | refine OL.st ?_ | refine TC.region ?_ | refine OL.nil ?_ | refine TX.thenN ?_ | refine TC.skip ?_ | refine TX.blkN ?_ | refine TC.ifF ?_ | fail)
          refine TX.rd (k + 1) [0, 1] ⟨by omega, ?_⟩ (by omega)
          rw [take_succ (by omega), take_succ (by omega), hpre, eq_of_beq he]
      · have e : sa = sb := by
          rw [← take_all (l := sa) (k := k) (by omega), ← take_all (l := sb) (k := k) (by omega)]
          exact hpre
        subst e
        clear hpre hl
        repeat' (with_reducible first | refine OL.st ?_ | refine TC.region ?_ | refine TC.seq ?_ | refine OL.nil ?_ | refine TX.thenN ?_ | refine TC.block ?_ | refine TC.exit ?_ | refine TX.hit ?_ | refine TX.thenX ?_ | refine TC.ifD ?_ ?_ <;> (intro hc; try (exfalso; omega)) | fail)
        refine TC.bl 43 fun htl => ?_
        refine TC.lp (fun k : Nat => [(2, .bp 0 0), (3, .bp 1 0), (44, V.int ta.length), (45, V.int k)]) (fun _ => [.cb Tc.api_TurnWorld [V.bool la, schsA sa, thingsA ta], .cb Tc.api_TurnWorld [V.bool lb, schsA sa, thingsA tb]]) (fun k => k ≤ ta.length ∧ ta.take k = tb.take k) (fun k => ta.length - k) 0 [0, 1] ⟨Nat.zero_le _, by simp⟩ ?_
        rintro j ⟨hj, hpre⟩
        by_cases hjl : j < ta.length
        · have hs := s_ref17_SameThing ta[j] (tb[j]'(by omega))
          repeat' (with_reducible first | refine OL.st ?_ | refine TC.region ?_ | refine TC.seq ?_ | refine OL.nil ?_ | refine TX.thenN ?_ | refine TC.block ?_ | refine TC.skip ?_ | refine TC.ifD ?_ ?_ <;> (intro hc; try (exfalso; omega)) | fail)
          (with_reducible refine TC.draw (id := 12) true 12 12 ?_ <;> refine OD.st 0 ?_ <;> refine OD.st 1 ?_ <;> refine OD.st 2 ?_ <;> refine OD.st 3 ?_ <;> refine OD.st 4 ?_ <;> refine OD.st 5 ?_ <;> refine OD.st 6 ?_ <;> refine OD.st 7 ?_ <;> refine OD.st 8 ?_ <;> refine OD.st 9 ?_ <;> refine OD.c1 10 hs Fn.ref17_SameThing ?_ <;> refine OD.st 11 ?_ <;> refine OD.dn ?_)
          repeat' (first | (with_reducible refine TX.thenN ?_) | fail)
          cases he : ta[j] == (tb[j]'(by omega))
          · repeat' (with_reducible first | refine OL.st ?_ | refine TC.region ?_ | refine TC.seq ?_ | refine OL.nil ?_ | refine TX.thenN ?_ | refine TC.ifT ?_ | refine TC.ret ?_ | refine TX.thenR ?_ | refine TX.blkR ?_ | fail)
            refine TX.rt1 [] (.bool ?_)
            have : ta ≠ tb := fun e => by subst e; simp at he
            simp [this]
          · repeat' (with_reducible first | refine OL.st ?_ | refine TC.region ?_ | refine OL.nil ?_ | refine TX.thenN ?_ | refine TC.skip ?_ | refine TX.blkN ?_ | refine TC.ifF ?_ | fail)
            refine TX.rd (j + 1) [0, 1] ⟨by omega, ?_⟩ (by omega)
            rw [take_succ (by omega), take_succ (by omega), hpre, eq_of_beq he]
        · have e : ta = tb := by
            rw [← take_all (l := ta) (k := j) (by omega), ← take_all (l := tb) (k := j) (by omega)]
            exact hpre
          repeat' (with_reducible first | refine OL.st ?_ | refine TC.region ?_ | refine TC.seq ?_ | refine OL.nil ?_ | refine TX.thenN ?_ | refine TC.exit ?_ | refine TX.hit ?_ | refine TX.thenX ?_ | refine TC.ifD ?_ ?_ <;> (intro hc; try (exfalso; omega)) | refine TC.ret ?_ | fail)
          refine TX.rt1 [] (.bool ?_)
          simp [e]
    · repeat' (with_reducible first | refine OL.st ?_ | refine OL.box ?_ | refine TC.region ?_ | refine TC.seq ?_ | refine OL.nil ?_ | refine TX.thenN ?_ | refine OL.gOn ?_ | refine TC.ifD ?_ ?_ <;> (intro hc; try (exfalso; omega)) | refine OL.gD ?_ ?_ <;> (intro hc; try (exfalso; omega)) | refine TC.ret ?_ | refine TX.thenR ?_ | fail)
      refine TX.rt1 [] (.bool ?_)
      have : ta ≠ tb := fun e => by subst e; exact ht rfl
      simp [this]
  · repeat' (with_reducible first | refine OL.st ?_ | refine OL.box ?_ | refine TC.region ?_ | refine TC.seq ?_ | refine OL.nil ?_ | refine TX.thenN ?_ | refine TC.ifT ?_ | refine OL.gOff ?_ | refine OL.gD ?_ ?_ <;> (intro hc; try (exfalso; omega)) | refine TC.ret ?_ | refine TX.thenR ?_ | fail)
    refine TX.rt1 [] (.bool ?_)
    have : sa ≠ sb := fun e => by subst e; exact hl rfl
    simp [this]
theorem same (la lb : Bool) (sa sb : List (List Cls)) (ta tb : List Thing) : V.Spec Tryz.prog Fc.ref17_Same [.st [V.bool la, schsA sa, thingsA ta], .st [V.bool lb, schsA sb, thingsA tb]] [] (V.bool (la == lb && (sa == sb && ta == tb))) [] := by
  have h := sameBut la lb sa sb ta tb
  refine V.Spec.enter Tryz.tabOK Tryz.mixed Fn.ref17_Same rfl rfl rfl fun B hB => ?_
  repeat' (with_reducible first | refine OL.st ?_ | refine OL.box ?_ | refine TC.region ?_ | refine TC.seq ?_ | refine OL.nil ?_ | refine TX.thenN ?_ | fail)
  refine OL.eqBl Tryz.underlying4 ?_
  cases la == lb
  · repeat' (with_reducible first | refine OL.st ?_ | refine OL.nil ?_ | refine TX.thenN ?_ | refine OL.gOff ?_ | refine TC.ret ?_ | fail)
    exact TX.rt1 [] (.ren rfl)
  · repeat' (first | (with_reducible refine OL.st ?_) | (with_reducible refine OL.gOn ?_) | fail)
    refine OL.c h Fn.ref17_SameBut ?_
    repeat' (with_reducible first | refine OL.st ?_ | refine OL.nil ?_ | refine TX.thenN ?_ | refine TC.ret ?_ | fail)
    refine TX.rt1 [] (.bool ?_)
    simp
end Go.Proofs
