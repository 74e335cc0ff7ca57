/- Part 13 of what the claim is proved by: lemmas on the model and walks through functions of the program; no conditions. -/
import Derived.Test.YthoblhbdeamjmaaQ6
import Derived.Test.YthoblhbdeamjmaaProg
import Derived.OwnWalk
import Derived.Test.YthoblhbdeamjmaaQ8
import Derived.Test.YthoblhbdeamjmaaQ11
import Derived.Test.YthoblhbdeamjmaaQ9
/- The table of the types of this translation, by program (wip/tools/tabgen.py). -/
namespace Go.Proofs
open Go.V
theorem Try.ty1 : TyOK Try.prog 1 ⟨.plain, 1, 8, .nilFunc⟩ := ⟨⟨_, Try.underlying1, ⟨nofun, nofun⟩⟩, by
  obtain ⟨i0, hi, hz, hs, hb⟩ := info_parts (show (Try.prog.info? 1).map (fun i => (i.zero, i.size, i.bytes)) = some (some (.nilFunc), 1, 8) by kernel_rfl)
  exact ⟨i0, hi, hs, hb, hz, rfl⟩⟩
theorem Try.ty2 : TyOK Try.prog 2 ⟨.int .i64, 1, 8, .int .i64 0⟩ := ⟨⟨_, Try.underlying2, rfl⟩, by
  obtain ⟨i0, hi, hz, hs, hb⟩ := info_parts (show (Try.prog.info? 2).map (fun i => (i.zero, i.size, i.bytes)) = some (some (.int .i64 0), 1, 8) by kernel_rfl)
  exact ⟨i0, hi, hs, hb, hz, rfl⟩⟩
theorem Try.ty3 : TyOK Try.prog 3 ⟨.int .i64, 1, 8, .int .i64 0⟩ := ⟨⟨_, Try.underlying3, rfl⟩, by
  obtain ⟨i0, hi, hz, hs, hb⟩ := info_parts (show (Try.prog.info? 3).map (fun i => (i.zero, i.size, i.bytes)) = some (some (.int .i64 0), 1, 8) by kernel_rfl)
  exact ⟨i0, hi, hs, hb, hz, rfl⟩⟩
theorem Try.ty4 : TyOK Try.prog 4 ⟨.plain, 1, 1, .bool false⟩ := ⟨⟨_, Try.underlying4, ⟨nofun, nofun⟩⟩, by
  obtain ⟨i0, hi, hz, hs, hb⟩ := info_parts (show (Try.prog.info? 4).map (fun i => (i.zero, i.size, i.bytes)) = some (some (.bool false), 1, 1) by kernel_rfl)
  exact ⟨i0, hi, hs, hb, hz, rfl⟩⟩
theorem Try.ty5 : TyOK Try.prog 5 ⟨.int .u8, 1, 1, .int .u8 0⟩ := ⟨⟨_, Try.underlying5, rfl⟩, by
  obtain ⟨i0, hi, hz, hs, hb⟩ := info_parts (show (Try.prog.info? 5).map (fun i => (i.zero, i.size, i.bytes)) = some (some (.int .u8 0), 1, 1) by kernel_rfl)
  exact ⟨i0, hi, hs, hb, hz, rfl⟩⟩
theorem Try.ty6 : TyOK Try.prog 6 ⟨.int .u8, 1, 1, .int .u8 0⟩ := ⟨⟨_, Try.underlying6, rfl⟩, by
  obtain ⟨i0, hi, hz, hs, hb⟩ := info_parts (show (Try.prog.info? 6).map (fun i => (i.zero, i.size, i.bytes)) = some (some (.int .u8 0), 1, 1) by kernel_rfl)
  exact ⟨i0, hi, hs, hb, hz, rfl⟩⟩
theorem Try.ty7 : TyOK Try.prog 7 ⟨.strct [(0, 2), (1, 3), (2, 4), (3, 6)], 4, 24, .agg #[.int .i64 0, .int .i64 0, .bool false, .int .u8 0]⟩ := ⟨⟨_, Try.underlying7, ⟨_, rfl, rfl⟩⟩, by
  obtain ⟨i0, hi, hz, hs, hb⟩ := info_parts (show (Try.prog.info? 7).map (fun i => (i.zero, i.size, i.bytes)) = some (some (.agg #[.int .i64 0, .int .i64 0, .bool false, .int .u8 0]), 4, 24) by kernel_rfl)
  exact ⟨i0, hi, hs, hb, hz, rfl⟩⟩
theorem Try.ty8 : TyOK Try.prog 8 ⟨.strct [(0, 2), (1, 3), (2, 4), (3, 6)], 4, 24, .agg #[.int .i64 0, .int .i64 0, .bool false, .int .u8 0]⟩ := ⟨⟨_, Try.underlying8, ⟨_, rfl, rfl⟩⟩, by
  obtain ⟨i0, hi, hz, hs, hb⟩ := info_parts (show (Try.prog.info? 8).map (fun i => (i.zero, i.size, i.bytes)) = some (some (.agg #[.int .i64 0, .int .i64 0, .bool false, .int .u8 0]), 4, 24) by kernel_rfl)
  exact ⟨i0, hi, hs, hb, hz, rfl⟩⟩
theorem Try.ty9 : TyOK Try.prog 9 ⟨.plain, 1, 16, .string ByteArray.empty⟩ := ⟨⟨_, Try.underlying9, ⟨nofun, nofun⟩⟩, by
  obtain ⟨i0, hi, hz, hs, hb⟩ := info_parts (show (Try.prog.info? 9).map (fun i => (i.zero, i.size, i.bytes)) = some (some (.string ByteArray.empty), 1, 16) by kernel_rfl)
  exact ⟨i0, hi, hs, hb, hz, rfl⟩⟩
theorem Try.ty10 : TyOK Try.prog 10 ⟨.plain, 1, 16, .string ByteArray.empty⟩ := ⟨⟨_, Try.underlying10, ⟨nofun, nofun⟩⟩, by
  obtain ⟨i0, hi, hz, hs, hb⟩ := info_parts (show (Try.prog.info? 10).map (fun i => (i.zero, i.size, i.bytes)) = some (some (.string ByteArray.empty), 1, 16) by kernel_rfl)
  exact ⟨i0, hi, hs, hb, hz, rfl⟩⟩
theorem Try.ty11 : TyOK Try.prog 11 ⟨.plain, 1, 16, .string ByteArray.empty⟩ := ⟨⟨_, Try.underlying11, ⟨nofun, nofun⟩⟩, by
  obtain ⟨i0, hi, hz, hs, hb⟩ := info_parts (show (Try.prog.info? 11).map (fun i => (i.zero, i.size, i.bytes)) = some (some (.string ByteArray.empty), 1, 16) by kernel_rfl)
  exact ⟨i0, hi, hs, hb, hz, rfl⟩⟩
theorem Try.ty12 : TyOK Try.prog 12 ⟨.int .u64, 1, 8, .int .u64 0⟩ := ⟨⟨_, Try.underlying12, rfl⟩, by
  obtain ⟨i0, hi, hz, hs, hb⟩ := info_parts (show (Try.prog.info? 12).map (fun i => (i.zero, i.size, i.bytes)) = some (some (.int .u64 0), 1, 8) by kernel_rfl)
  exact ⟨i0, hi, hs, hb, hz, rfl⟩⟩
theorem Try.ty13 : TyOK Try.prog 13 ⟨.strct [(0, 9), (1, 12)], 2, 24, .agg #[.string ByteArray.empty, .int .u64 0]⟩ := ⟨⟨_, Try.underlying13, ⟨_, rfl, rfl⟩⟩, by
  obtain ⟨i0, hi, hz, hs, hb⟩ := info_parts (show (Try.prog.info? 13).map (fun i => (i.zero, i.size, i.bytes)) = some (some (.agg #[.string ByteArray.empty, .int .u64 0]), 2, 24) by kernel_rfl)
  exact ⟨i0, hi, hs, hb, hz, rfl⟩⟩
theorem Try.ty14 : TyOK Try.prog 14 ⟨.strct [(0, 9), (1, 12)], 2, 24, .agg #[.string ByteArray.empty, .int .u64 0]⟩ := ⟨⟨_, Try.underlying14, ⟨_, rfl, rfl⟩⟩, by
  obtain ⟨i0, hi, hz, hs, hb⟩ := info_parts (show (Try.prog.info? 14).map (fun i => (i.zero, i.size, i.bytes)) = some (some (.agg #[.string ByteArray.empty, .int .u64 0]), 2, 24) by kernel_rfl)
  exact ⟨i0, hi, hs, hb, hz, rfl⟩⟩
theorem Try.ty15 : TyOK Try.prog 15 ⟨.ptr 117, 1, 8, .pointer none⟩ := ⟨⟨_, Try.underlying15, rfl⟩, by
  obtain ⟨i0, hi, hz, hs, hb⟩ := info_parts (show (Try.prog.info? 15).map (fun i => (i.zero, i.size, i.bytes)) = some (some (.pointer none), 1, 8) by kernel_rfl)
  exact ⟨i0, hi, hs, hb, hz, rfl⟩⟩
theorem Try.ty16 : TyOK Try.prog 16 ⟨.ptr 120, 1, 8, .pointer none⟩ := ⟨⟨_, Try.underlying16, rfl⟩, by
  obtain ⟨i0, hi, hz, hs, hb⟩ := info_parts (show (Try.prog.info? 16).map (fun i => (i.zero, i.size, i.bytes)) = some (some (.pointer none), 1, 8) by kernel_rfl)
  exact ⟨i0, hi, hs, hb, hz, rfl⟩⟩
theorem Try.ty17 : TyOK Try.prog 17 ⟨.ptr 130, 1, 8, .pointer none⟩ := ⟨⟨_, Try.underlying17, rfl⟩, by
  obtain ⟨i0, hi, hz, hs, hb⟩ := info_parts (show (Try.prog.info? 17).map (fun i => (i.zero, i.size, i.bytes)) = some (some (.pointer none), 1, 8) by kernel_rfl)
  exact ⟨i0, hi, hs, hb, hz, rfl⟩⟩
theorem Try.ty18 : TyOK Try.prog 18 ⟨.strct [(0, 17)], 1, 8, .agg #[.pointer none]⟩ := ⟨⟨_, Try.underlying18, ⟨_, rfl, rfl⟩⟩, by
  obtain ⟨i0, hi, hz, hs, hb⟩ := info_parts (show (Try.prog.info? 18).map (fun i => (i.zero, i.size, i.bytes)) = some (some (.agg #[.pointer none]), 1, 8) by kernel_rfl)
  exact ⟨i0, hi, hs, hb, hz, rfl⟩⟩
theorem Try.ty19 : TyOK Try.prog 19 ⟨.strct [(0, 17)], 1, 8, .agg #[.pointer none]⟩ := ⟨⟨_, Try.underlying19, ⟨_, rfl, rfl⟩⟩, by
  obtain ⟨i0, hi, hz, hs, hb⟩ := info_parts (show (Try.prog.info? 19).map (fun i => (i.zero, i.size, i.bytes)) = some (some (.agg #[.pointer none]), 1, 8) by kernel_rfl)
  exact ⟨i0, hi, hs, hb, hz, rfl⟩⟩
theorem Try.ty20 : TyOK Try.prog 20 ⟨.plain, 1, 16, .nilIface⟩ := ⟨⟨_, Try.underlying20, ⟨nofun, nofun⟩⟩, by
  obtain ⟨i0, hi, hz, hs, hb⟩ := info_parts (show (Try.prog.info? 20).map (fun i => (i.zero, i.size, i.bytes)) = some (some (.nilIface), 1, 16) by kernel_rfl)
  exact ⟨i0, hi, hs, hb, hz, rfl⟩⟩
theorem Try.ty21 : TyOK Try.prog 21 ⟨.int .i32, 1, 4, .int .i32 0⟩ := ⟨⟨_, Try.underlying21, rfl⟩, by
  obtain ⟨i0, hi, hz, hs, hb⟩ := info_parts (show (Try.prog.info? 21).map (fun i => (i.zero, i.size, i.bytes)) = some (some (.int .i32 0), 1, 4) by kernel_rfl)
  exact ⟨i0, hi, hs, hb, hz, rfl⟩⟩
theorem Try.ty22 : TyOK Try.prog 22 ⟨.slice 25, 1, 24, .slice none 0 0⟩ := ⟨⟨_, Try.underlying22, rfl⟩, by
  obtain ⟨i0, hi, hz, hs, hb⟩ := info_parts (show (Try.prog.info? 22).map (fun i => (i.zero, i.size, i.bytes)) = some (some (.slice none 0 0), 1, 24) by kernel_rfl)
  exact ⟨i0, hi, hs, hb, hz, rfl⟩⟩
theorem Try.ty23 : TyOK Try.prog 23 ⟨.plain, 1, 8, .nilFunc⟩ := ⟨⟨_, Try.underlying23, ⟨nofun, nofun⟩⟩, by
  obtain ⟨i0, hi, hz, hs, hb⟩ := info_parts (show (Try.prog.info? 23).map (fun i => (i.zero, i.size, i.bytes)) = some (some (.nilFunc), 1, 8) by kernel_rfl)
  exact ⟨i0, hi, hs, hb, hz, rfl⟩⟩
theorem Try.ty24 : TyOK Try.prog 24 ⟨.plain, 1, 8, .nilFunc⟩ := ⟨⟨_, Try.underlying24, ⟨nofun, nofun⟩⟩, by
  obtain ⟨i0, hi, hz, hs, hb⟩ := info_parts (show (Try.prog.info? 24).map (fun i => (i.zero, i.size, i.bytes)) = some (some (.nilFunc), 1, 8) by kernel_rfl)
  exact ⟨i0, hi, hs, hb, hz, rfl⟩⟩
theorem Try.ty25 : TyOK Try.prog 25 ⟨.slice 3, 1, 24, .slice none 0 0⟩ := ⟨⟨_, Try.underlying25, rfl⟩, by
  obtain ⟨i0, hi, hz, hs, hb⟩ := info_parts (show (Try.prog.info? 25).map (fun i => (i.zero, i.size, i.bytes)) = some (some (.slice none 0 0), 1, 24) by kernel_rfl)
  exact ⟨i0, hi, hs, hb, hz, rfl⟩⟩
theorem Try.ty26 : TyOK Try.prog 26 ⟨.int .i64, 1, 8, .int .i64 0⟩ := ⟨⟨_, Try.underlying26, rfl⟩, by
  obtain ⟨i0, hi, hz, hs, hb⟩ := info_parts (show (Try.prog.info? 26).map (fun i => (i.zero, i.size, i.bytes)) = some (some (.int .i64 0), 1, 8) by kernel_rfl)
  exact ⟨i0, hi, hs, hb, hz, rfl⟩⟩
theorem Try.ty28 : TyOK Try.prog 28 ⟨.plain, 1, 8, .nilFunc⟩ := ⟨⟨_, Try.underlying28, ⟨nofun, nofun⟩⟩, by
  obtain ⟨i0, hi, hz, hs, hb⟩ := info_parts (show (Try.prog.info? 28).map (fun i => (i.zero, i.size, i.bytes)) = some (some (.nilFunc), 1, 8) by kernel_rfl)
  exact ⟨i0, hi, hs, hb, hz, rfl⟩⟩
theorem Try.ty29 : TyOK Try.prog 29 ⟨.plain, 1, 8, .nilFunc⟩ := ⟨⟨_, Try.underlying29, ⟨nofun, nofun⟩⟩, by
  obtain ⟨i0, hi, hz, hs, hb⟩ := info_parts (show (Try.prog.info? 29).map (fun i => (i.zero, i.size, i.bytes)) = some (some (.nilFunc), 1, 8) by kernel_rfl)
  exact ⟨i0, hi, hs, hb, hz, rfl⟩⟩
theorem Try.ty30 : TyOK Try.prog 30 ⟨.plain, 1, 8, .nilFunc⟩ := ⟨⟨_, Try.underlying30, ⟨nofun, nofun⟩⟩, by
  obtain ⟨i0, hi, hz, hs, hb⟩ := info_parts (show (Try.prog.info? 30).map (fun i => (i.zero, i.size, i.bytes)) = some (some (.nilFunc), 1, 8) by kernel_rfl)
  exact ⟨i0, hi, hs, hb, hz, rfl⟩⟩
theorem Try.ty31 : TyOK Try.prog 31 ⟨.slice 5, 1, 24, .slice none 0 0⟩ := ⟨⟨_, Try.underlying31, rfl⟩, by
  obtain ⟨i0, hi, hz, hs, hb⟩ := info_parts (show (Try.prog.info? 31).map (fun i => (i.zero, i.size, i.bytes)) = some (some (.slice none 0 0), 1, 24) by kernel_rfl)
  exact ⟨i0, hi, hs, hb, hz, rfl⟩⟩
theorem Try.ty33 : TyOK Try.prog 33 ⟨.plain, 1, 8, .nilFunc⟩ := ⟨⟨_, Try.underlying33, ⟨nofun, nofun⟩⟩, by
  obtain ⟨i0, hi, hz, hs, hb⟩ := info_parts (show (Try.prog.info? 33).map (fun i => (i.zero, i.size, i.bytes)) = some (some (.nilFunc), 1, 8) by kernel_rfl)
  exact ⟨i0, hi, hs, hb, hz, rfl⟩⟩
theorem Try.ty35 : TyOK Try.prog 35 ⟨.plain, 1, 8, .nilFunc⟩ := ⟨⟨_, Try.underlying35, ⟨nofun, nofun⟩⟩, by
  obtain ⟨i0, hi, hz, hs, hb⟩ := info_parts (show (Try.prog.info? 35).map (fun i => (i.zero, i.size, i.bytes)) = some (some (.nilFunc), 1, 8) by kernel_rfl)
  exact ⟨i0, hi, hs, hb, hz, rfl⟩⟩
theorem Try.ty36 : TyOK Try.prog 36 ⟨.plain, 1, 8, .nilFunc⟩ := ⟨⟨_, Try.underlying36, ⟨nofun, nofun⟩⟩, by
  obtain ⟨i0, hi, hz, hs, hb⟩ := info_parts (show (Try.prog.info? 36).map (fun i => (i.zero, i.size, i.bytes)) = some (some (.nilFunc), 1, 8) by kernel_rfl)
  exact ⟨i0, hi, hs, hb, hz, rfl⟩⟩
theorem Try.ty37 : TyOK Try.prog 37 ⟨.plain, 1, 8, .nilFunc⟩ := ⟨⟨_, Try.underlying37, ⟨nofun, nofun⟩⟩, by
  obtain ⟨i0, hi, hz, hs, hb⟩ := info_parts (show (Try.prog.info? 37).map (fun i => (i.zero, i.size, i.bytes)) = some (some (.nilFunc), 1, 8) by kernel_rfl)
  exact ⟨i0, hi, hs, hb, hz, rfl⟩⟩
theorem Try.ty38 : TyOK Try.prog 38 ⟨.plain, 1, 8, .nilFunc⟩ := ⟨⟨_, Try.underlying38, ⟨nofun, nofun⟩⟩, by
  obtain ⟨i0, hi, hz, hs, hb⟩ := info_parts (show (Try.prog.info? 38).map (fun i => (i.zero, i.size, i.bytes)) = some (some (.nilFunc), 1, 8) by kernel_rfl)
  exact ⟨i0, hi, hs, hb, hz, rfl⟩⟩
theorem Try.ty39 : TyOK Try.prog 39 ⟨.plain, 1, 8, .nilFunc⟩ := ⟨⟨_, Try.underlying39, ⟨nofun, nofun⟩⟩, by
  obtain ⟨i0, hi, hz, hs, hb⟩ := info_parts (show (Try.prog.info? 39).map (fun i => (i.zero, i.size, i.bytes)) = some (some (.nilFunc), 1, 8) by kernel_rfl)
  exact ⟨i0, hi, hs, hb, hz, rfl⟩⟩
theorem Try.ty40 : TyOK Try.prog 40 ⟨.slice 70, 1, 24, .slice none 0 0⟩ := ⟨⟨_, Try.underlying40, rfl⟩, by
  obtain ⟨i0, hi, hz, hs, hb⟩ := info_parts (show (Try.prog.info? 40).map (fun i => (i.zero, i.size, i.bytes)) = some (some (.slice none 0 0), 1, 24) by kernel_rfl)
  exact ⟨i0, hi, hs, hb, hz, rfl⟩⟩
theorem Try.ty41 : TyOK Try.prog 41 ⟨.plain, 1, 8, .nilFunc⟩ := ⟨⟨_, Try.underlying41, ⟨nofun, nofun⟩⟩, by
  obtain ⟨i0, hi, hz, hs, hb⟩ := info_parts (show (Try.prog.info? 41).map (fun i => (i.zero, i.size, i.bytes)) = some (some (.nilFunc), 1, 8) by kernel_rfl)
  exact ⟨i0, hi, hs, hb, hz, rfl⟩⟩
theorem Try.ty42 : TyOK Try.prog 42 ⟨.slice 40, 1, 24, .slice none 0 0⟩ := ⟨⟨_, Try.underlying42, rfl⟩, by
  obtain ⟨i0, hi, hz, hs, hb⟩ := info_parts (show (Try.prog.info? 42).map (fun i => (i.zero, i.size, i.bytes)) = some (some (.slice none 0 0), 1, 24) by kernel_rfl)
  exact ⟨i0, hi, hs, hb, hz, rfl⟩⟩
theorem Try.ty44 : TyOK Try.prog 44 ⟨.plain, 1, 8, .nilFunc⟩ := ⟨⟨_, Try.underlying44, ⟨nofun, nofun⟩⟩, by
  obtain ⟨i0, hi, hz, hs, hb⟩ := info_parts (show (Try.prog.info? 44).map (fun i => (i.zero, i.size, i.bytes)) = some (some (.nilFunc), 1, 8) by kernel_rfl)
  exact ⟨i0, hi, hs, hb, hz, rfl⟩⟩
theorem Try.ty45 : TyOK Try.prog 45 ⟨.plain, 1, 8, .nilFunc⟩ := ⟨⟨_, Try.underlying45, ⟨nofun, nofun⟩⟩, by
  obtain ⟨i0, hi, hz, hs, hb⟩ := info_parts (show (Try.prog.info? 45).map (fun i => (i.zero, i.size, i.bytes)) = some (some (.nilFunc), 1, 8) by kernel_rfl)
  exact ⟨i0, hi, hs, hb, hz, rfl⟩⟩
theorem Try.ty46 : TyOK Try.prog 46 ⟨.plain, 1, 8, .nilFunc⟩ := ⟨⟨_, Try.underlying46, ⟨nofun, nofun⟩⟩, by
  obtain ⟨i0, hi, hz, hs, hb⟩ := info_parts (show (Try.prog.info? 46).map (fun i => (i.zero, i.size, i.bytes)) = some (some (.nilFunc), 1, 8) by kernel_rfl)
  exact ⟨i0, hi, hs, hb, hz, rfl⟩⟩
theorem Try.ty47 : TyOK Try.prog 47 ⟨.plain, 1, 8, .nilFunc⟩ := ⟨⟨_, Try.underlying47, ⟨nofun, nofun⟩⟩, by
  obtain ⟨i0, hi, hz, hs, hb⟩ := info_parts (show (Try.prog.info? 47).map (fun i => (i.zero, i.size, i.bytes)) = some (some (.nilFunc), 1, 8) by kernel_rfl)
  exact ⟨i0, hi, hs, hb, hz, rfl⟩⟩
theorem Try.ty48 : TyOK Try.prog 48 ⟨.plain, 1, 8, .nilFunc⟩ := ⟨⟨_, Try.underlying48, ⟨nofun, nofun⟩⟩, by
  obtain ⟨i0, hi, hz, hs, hb⟩ := info_parts (show (Try.prog.info? 48).map (fun i => (i.zero, i.size, i.bytes)) = some (some (.nilFunc), 1, 8) by kernel_rfl)
  exact ⟨i0, hi, hs, hb, hz, rfl⟩⟩
theorem Try.ty49 : TyOK Try.prog 49 ⟨.plain, 1, 8, .nilFunc⟩ := ⟨⟨_, Try.underlying49, ⟨nofun, nofun⟩⟩, by
  obtain ⟨i0, hi, hz, hs, hb⟩ := info_parts (show (Try.prog.info? 49).map (fun i => (i.zero, i.size, i.bytes)) = some (some (.nilFunc), 1, 8) by kernel_rfl)
  exact ⟨i0, hi, hs, hb, hz, rfl⟩⟩
theorem Try.ty50 : TyOK Try.prog 50 ⟨.plain, 1, 8, .nilFunc⟩ := ⟨⟨_, Try.underlying50, ⟨nofun, nofun⟩⟩, by
  obtain ⟨i0, hi, hz, hs, hb⟩ := info_parts (show (Try.prog.info? 50).map (fun i => (i.zero, i.size, i.bytes)) = some (some (.nilFunc), 1, 8) by kernel_rfl)
  exact ⟨i0, hi, hs, hb, hz, rfl⟩⟩
theorem Try.ty52 : TyOK Try.prog 52 ⟨.plain, 1, 8, .nilFunc⟩ := ⟨⟨_, Try.underlying52, ⟨nofun, nofun⟩⟩, by
  obtain ⟨i0, hi, hz, hs, hb⟩ := info_parts (show (Try.prog.info? 52).map (fun i => (i.zero, i.size, i.bytes)) = some (some (.nilFunc), 1, 8) by kernel_rfl)
  exact ⟨i0, hi, hs, hb, hz, rfl⟩⟩
theorem Try.ty53 : TyOK Try.prog 53 ⟨.plain, 1, 8, .nilFunc⟩ := ⟨⟨_, Try.underlying53, ⟨nofun, nofun⟩⟩, by
  obtain ⟨i0, hi, hz, hs, hb⟩ := info_parts (show (Try.prog.info? 53).map (fun i => (i.zero, i.size, i.bytes)) = some (some (.nilFunc), 1, 8) by kernel_rfl)
  exact ⟨i0, hi, hs, hb, hz, rfl⟩⟩
theorem Try.ty54 : TyOK Try.prog 54 ⟨.plain, 1, 8, .nilFunc⟩ := ⟨⟨_, Try.underlying54, ⟨nofun, nofun⟩⟩, by
  obtain ⟨i0, hi, hz, hs, hb⟩ := info_parts (show (Try.prog.info? 54).map (fun i => (i.zero, i.size, i.bytes)) = some (some (.nilFunc), 1, 8) by kernel_rfl)
  exact ⟨i0, hi, hs, hb, hz, rfl⟩⟩
theorem Try.ty55 : TyOK Try.prog 55 ⟨.plain, 1, 8, .nilFunc⟩ := ⟨⟨_, Try.underlying55, ⟨nofun, nofun⟩⟩, by
  obtain ⟨i0, hi, hz, hs, hb⟩ := info_parts (show (Try.prog.info? 55).map (fun i => (i.zero, i.size, i.bytes)) = some (some (.nilFunc), 1, 8) by kernel_rfl)
  exact ⟨i0, hi, hs, hb, hz, rfl⟩⟩
theorem Try.ty56 : TyOK Try.prog 56 ⟨.plain, 1, 8, .nilFunc⟩ := ⟨⟨_, Try.underlying56, ⟨nofun, nofun⟩⟩, by
  obtain ⟨i0, hi, hz, hs, hb⟩ := info_parts (show (Try.prog.info? 56).map (fun i => (i.zero, i.size, i.bytes)) = some (some (.nilFunc), 1, 8) by kernel_rfl)
  exact ⟨i0, hi, hs, hb, hz, rfl⟩⟩
theorem Try.ty57 : TyOK Try.prog 57 ⟨.plain, 1, 8, .nilFunc⟩ := ⟨⟨_, Try.underlying57, ⟨nofun, nofun⟩⟩, by
  obtain ⟨i0, hi, hz, hs, hb⟩ := info_parts (show (Try.prog.info? 57).map (fun i => (i.zero, i.size, i.bytes)) = some (some (.nilFunc), 1, 8) by kernel_rfl)
  exact ⟨i0, hi, hs, hb, hz, rfl⟩⟩
theorem Try.ty58 : TyOK Try.prog 58 ⟨.slice 4, 1, 24, .slice none 0 0⟩ := ⟨⟨_, Try.underlying58, rfl⟩, by
  obtain ⟨i0, hi, hz, hs, hb⟩ := info_parts (show (Try.prog.info? 58).map (fun i => (i.zero, i.size, i.bytes)) = some (some (.slice none 0 0), 1, 24) by kernel_rfl)
  exact ⟨i0, hi, hs, hb, hz, rfl⟩⟩
theorem Try.ty59 : TyOK Try.prog 59 ⟨.plain, 1, 8, .nilFunc⟩ := ⟨⟨_, Try.underlying59, ⟨nofun, nofun⟩⟩, by
  obtain ⟨i0, hi, hz, hs, hb⟩ := info_parts (show (Try.prog.info? 59).map (fun i => (i.zero, i.size, i.bytes)) = some (some (.nilFunc), 1, 8) by kernel_rfl)
  exact ⟨i0, hi, hs, hb, hz, rfl⟩⟩
theorem Try.ty60 : TyOK Try.prog 60 ⟨.plain, 1, 8, .nilFunc⟩ := ⟨⟨_, Try.underlying60, ⟨nofun, nofun⟩⟩, by
  obtain ⟨i0, hi, hz, hs, hb⟩ := info_parts (show (Try.prog.info? 60).map (fun i => (i.zero, i.size, i.bytes)) = some (some (.nilFunc), 1, 8) by kernel_rfl)
  exact ⟨i0, hi, hs, hb, hz, rfl⟩⟩
theorem Try.ty61 : TyOK Try.prog 61 ⟨.plain, 1, 8, .nilFunc⟩ := ⟨⟨_, Try.underlying61, ⟨nofun, nofun⟩⟩, by
  obtain ⟨i0, hi, hz, hs, hb⟩ := info_parts (show (Try.prog.info? 61).map (fun i => (i.zero, i.size, i.bytes)) = some (some (.nilFunc), 1, 8) by kernel_rfl)
  exact ⟨i0, hi, hs, hb, hz, rfl⟩⟩
theorem Try.ty62 : TyOK Try.prog 62 ⟨.plain, 1, 8, .nilFunc⟩ := ⟨⟨_, Try.underlying62, ⟨nofun, nofun⟩⟩, by
  obtain ⟨i0, hi, hz, hs, hb⟩ := info_parts (show (Try.prog.info? 62).map (fun i => (i.zero, i.size, i.bytes)) = some (some (.nilFunc), 1, 8) by kernel_rfl)
  exact ⟨i0, hi, hs, hb, hz, rfl⟩⟩
theorem Try.ty63 : TyOK Try.prog 63 ⟨.plain, 1, 8, .nilFunc⟩ := ⟨⟨_, Try.underlying63, ⟨nofun, nofun⟩⟩, by
  obtain ⟨i0, hi, hz, hs, hb⟩ := info_parts (show (Try.prog.info? 63).map (fun i => (i.zero, i.size, i.bytes)) = some (some (.nilFunc), 1, 8) by kernel_rfl)
  exact ⟨i0, hi, hs, hb, hz, rfl⟩⟩
theorem Try.ty64 : TyOK Try.prog 64 ⟨.plain, 1, 8, .nilFunc⟩ := ⟨⟨_, Try.underlying64, ⟨nofun, nofun⟩⟩, by
  obtain ⟨i0, hi, hz, hs, hb⟩ := info_parts (show (Try.prog.info? 64).map (fun i => (i.zero, i.size, i.bytes)) = some (some (.nilFunc), 1, 8) by kernel_rfl)
  exact ⟨i0, hi, hs, hb, hz, rfl⟩⟩
theorem Try.ty65 : TyOK Try.prog 65 ⟨.plain, 1, 8, .nilFunc⟩ := ⟨⟨_, Try.underlying65, ⟨nofun, nofun⟩⟩, by
  obtain ⟨i0, hi, hz, hs, hb⟩ := info_parts (show (Try.prog.info? 65).map (fun i => (i.zero, i.size, i.bytes)) = some (some (.nilFunc), 1, 8) by kernel_rfl)
  exact ⟨i0, hi, hs, hb, hz, rfl⟩⟩
theorem Try.ty66 : TyOK Try.prog 66 ⟨.plain, 1, 8, .nilFunc⟩ := ⟨⟨_, Try.underlying66, ⟨nofun, nofun⟩⟩, by
  obtain ⟨i0, hi, hz, hs, hb⟩ := info_parts (show (Try.prog.info? 66).map (fun i => (i.zero, i.size, i.bytes)) = some (some (.nilFunc), 1, 8) by kernel_rfl)
  exact ⟨i0, hi, hs, hb, hz, rfl⟩⟩
theorem Try.ty67 : TyOK Try.prog 67 ⟨.plain, 1, 8, .nilFunc⟩ := ⟨⟨_, Try.underlying67, ⟨nofun, nofun⟩⟩, by
  obtain ⟨i0, hi, hz, hs, hb⟩ := info_parts (show (Try.prog.info? 67).map (fun i => (i.zero, i.size, i.bytes)) = some (some (.nilFunc), 1, 8) by kernel_rfl)
  exact ⟨i0, hi, hs, hb, hz, rfl⟩⟩
theorem Try.ty68 : TyOK Try.prog 68 ⟨.plain, 1, 8, .nilFunc⟩ := ⟨⟨_, Try.underlying68, ⟨nofun, nofun⟩⟩, by
  obtain ⟨i0, hi, hz, hs, hb⟩ := info_parts (show (Try.prog.info? 68).map (fun i => (i.zero, i.size, i.bytes)) = some (some (.nilFunc), 1, 8) by kernel_rfl)
  exact ⟨i0, hi, hs, hb, hz, rfl⟩⟩
theorem Try.ty69 : TyOK Try.prog 69 ⟨.strct [(0, 3), (1, 3)], 2, 16, .agg #[.int .i64 0, .int .i64 0]⟩ := ⟨⟨_, Try.underlying69, ⟨_, rfl, rfl⟩⟩, by
  obtain ⟨i0, hi, hz, hs, hb⟩ := info_parts (show (Try.prog.info? 69).map (fun i => (i.zero, i.size, i.bytes)) = some (some (.agg #[.int .i64 0, .int .i64 0]), 2, 16) by kernel_rfl)
  exact ⟨i0, hi, hs, hb, hz, rfl⟩⟩
theorem Try.ty70 : TyOK Try.prog 70 ⟨.strct [(0, 3), (1, 3)], 2, 16, .agg #[.int .i64 0, .int .i64 0]⟩ := ⟨⟨_, Try.underlying70, ⟨_, rfl, rfl⟩⟩, by
  obtain ⟨i0, hi, hz, hs, hb⟩ := info_parts (show (Try.prog.info? 70).map (fun i => (i.zero, i.size, i.bytes)) = some (some (.agg #[.int .i64 0, .int .i64 0]), 2, 16) by kernel_rfl)
  exact ⟨i0, hi, hs, hb, hz, rfl⟩⟩
theorem Try.ty71 : TyOK Try.prog 71 ⟨.ptr 77, 1, 8, .pointer none⟩ := ⟨⟨_, Try.underlying71, rfl⟩, by
  obtain ⟨i0, hi, hz, hs, hb⟩ := info_parts (show (Try.prog.info? 71).map (fun i => (i.zero, i.size, i.bytes)) = some (some (.pointer none), 1, 8) by kernel_rfl)
  exact ⟨i0, hi, hs, hb, hz, rfl⟩⟩
theorem Try.ty73 : TyOK Try.prog 73 ⟨.plain, 1, 8, .nilFunc⟩ := ⟨⟨_, Try.underlying73, ⟨nofun, nofun⟩⟩, by
  obtain ⟨i0, hi, hz, hs, hb⟩ := info_parts (show (Try.prog.info? 73).map (fun i => (i.zero, i.size, i.bytes)) = some (some (.nilFunc), 1, 8) by kernel_rfl)
  exact ⟨i0, hi, hs, hb, hz, rfl⟩⟩
theorem Try.ty74 : TyOK Try.prog 74 ⟨.slice 82, 1, 24, .slice none 0 0⟩ := ⟨⟨_, Try.underlying74, rfl⟩, by
  obtain ⟨i0, hi, hz, hs, hb⟩ := info_parts (show (Try.prog.info? 74).map (fun i => (i.zero, i.size, i.bytes)) = some (some (.slice none 0 0), 1, 24) by kernel_rfl)
  exact ⟨i0, hi, hs, hb, hz, rfl⟩⟩
theorem Try.ty75 : TyOK Try.prog 75 ⟨.map 3 25, 1, 8, .map none⟩ := ⟨⟨_, Try.underlying75, rfl⟩, by
  obtain ⟨i0, hi, hz, hs, hb⟩ := info_parts (show (Try.prog.info? 75).map (fun i => (i.zero, i.size, i.bytes)) = some (some (.map none), 1, 8) by kernel_rfl)
  exact ⟨i0, hi, hs, hb, hz, rfl⟩⟩
theorem Try.ty76 : TyOK Try.prog 76 ⟨.strct [(0, 22), (1, 74), (2, 75)], 3, 56, .agg #[.slice none 0 0, .slice none 0 0, .map none]⟩ := ⟨⟨_, Try.underlying76, ⟨_, rfl, rfl⟩⟩, by
  obtain ⟨i0, hi, hz, hs, hb⟩ := info_parts (show (Try.prog.info? 76).map (fun i => (i.zero, i.size, i.bytes)) = some (some (.agg #[.slice none 0 0, .slice none 0 0, .map none]), 3, 56) by kernel_rfl)
  exact ⟨i0, hi, hs, hb, hz, rfl⟩⟩
theorem Try.ty77 : TyOK Try.prog 77 ⟨.strct [(0, 22), (1, 74), (2, 75)], 3, 56, .agg #[.slice none 0 0, .slice none 0 0, .map none]⟩ := ⟨⟨_, Try.underlying77, ⟨_, rfl, rfl⟩⟩, by
  obtain ⟨i0, hi, hz, hs, hb⟩ := info_parts (show (Try.prog.info? 77).map (fun i => (i.zero, i.size, i.bytes)) = some (some (.agg #[.slice none 0 0, .slice none 0 0, .map none]), 3, 56) by kernel_rfl)
  exact ⟨i0, hi, hs, hb, hz, rfl⟩⟩
theorem Try.ty79 : TyOK Try.prog 79 ⟨.plain, 1, 8, .nilFunc⟩ := ⟨⟨_, Try.underlying79, ⟨nofun, nofun⟩⟩, by
  obtain ⟨i0, hi, hz, hs, hb⟩ := info_parts (show (Try.prog.info? 79).map (fun i => (i.zero, i.size, i.bytes)) = some (some (.nilFunc), 1, 8) by kernel_rfl)
  exact ⟨i0, hi, hs, hb, hz, rfl⟩⟩
theorem Try.ty80 : TyOK Try.prog 80 ⟨.int .u64, 1, 8, .int .u64 0⟩ := ⟨⟨_, Try.underlying80, rfl⟩, by
  obtain ⟨i0, hi, hz, hs, hb⟩ := info_parts (show (Try.prog.info? 80).map (fun i => (i.zero, i.size, i.bytes)) = some (some (.int .u64 0), 1, 8) by kernel_rfl)
  exact ⟨i0, hi, hs, hb, hz, rfl⟩⟩
theorem Try.ty81 : TyOK Try.prog 81 ⟨.array 1 80, 1, 8, .agg #[.int .u64 0]⟩ := ⟨⟨_, Try.underlying81, rfl⟩, by
  obtain ⟨i0, hi, hz, hs, hb⟩ := info_parts (show (Try.prog.info? 81).map (fun i => (i.zero, i.size, i.bytes)) = some (some (.agg #[.int .u64 0]), 1, 8) by kernel_rfl)
  exact ⟨i0, hi, hs, hb, hz, rfl⟩⟩
theorem Try.ty82 : TyOK Try.prog 82 ⟨.array 1 80, 1, 8, .agg #[.int .u64 0]⟩ := ⟨⟨_, Try.underlying82, rfl⟩, by
  obtain ⟨i0, hi, hz, hs, hb⟩ := info_parts (show (Try.prog.info? 82).map (fun i => (i.zero, i.size, i.bytes)) = some (some (.agg #[.int .u64 0]), 1, 8) by kernel_rfl)
  exact ⟨i0, hi, hs, hb, hz, rfl⟩⟩
theorem Try.ty83 : TyOK Try.prog 83 ⟨.plain, 1, 8, .nilFunc⟩ := ⟨⟨_, Try.underlying83, ⟨nofun, nofun⟩⟩, by
  obtain ⟨i0, hi, hz, hs, hb⟩ := info_parts (show (Try.prog.info? 83).map (fun i => (i.zero, i.size, i.bytes)) = some (some (.nilFunc), 1, 8) by kernel_rfl)
  exact ⟨i0, hi, hs, hb, hz, rfl⟩⟩
theorem Try.ty84 : TyOK Try.prog 84 ⟨.plain, 1, 8, .nilFunc⟩ := ⟨⟨_, Try.underlying84, ⟨nofun, nofun⟩⟩, by
  obtain ⟨i0, hi, hz, hs, hb⟩ := info_parts (show (Try.prog.info? 84).map (fun i => (i.zero, i.size, i.bytes)) = some (some (.nilFunc), 1, 8) by kernel_rfl)
  exact ⟨i0, hi, hs, hb, hz, rfl⟩⟩
theorem Try.ty85 : TyOK Try.prog 85 ⟨.plain, 1, 8, .nilFunc⟩ := ⟨⟨_, Try.underlying85, ⟨nofun, nofun⟩⟩, by
  obtain ⟨i0, hi, hz, hs, hb⟩ := info_parts (show (Try.prog.info? 85).map (fun i => (i.zero, i.size, i.bytes)) = some (some (.nilFunc), 1, 8) by kernel_rfl)
  exact ⟨i0, hi, hs, hb, hz, rfl⟩⟩
theorem Try.ty86 : TyOK Try.prog 86 ⟨.plain, 1, 8, .nilFunc⟩ := ⟨⟨_, Try.underlying86, ⟨nofun, nofun⟩⟩, by
  obtain ⟨i0, hi, hz, hs, hb⟩ := info_parts (show (Try.prog.info? 86).map (fun i => (i.zero, i.size, i.bytes)) = some (some (.nilFunc), 1, 8) by kernel_rfl)
  exact ⟨i0, hi, hs, hb, hz, rfl⟩⟩
theorem Try.ty87 : TyOK Try.prog 87 ⟨.plain, 1, 8, .nilFunc⟩ := ⟨⟨_, Try.underlying87, ⟨nofun, nofun⟩⟩, by
  obtain ⟨i0, hi, hz, hs, hb⟩ := info_parts (show (Try.prog.info? 87).map (fun i => (i.zero, i.size, i.bytes)) = some (some (.nilFunc), 1, 8) by kernel_rfl)
  exact ⟨i0, hi, hs, hb, hz, rfl⟩⟩
theorem Try.ty88 : TyOK Try.prog 88 ⟨.plain, 1, 8, .nilFunc⟩ := ⟨⟨_, Try.underlying88, ⟨nofun, nofun⟩⟩, by
  obtain ⟨i0, hi, hz, hs, hb⟩ := info_parts (show (Try.prog.info? 88).map (fun i => (i.zero, i.size, i.bytes)) = some (some (.nilFunc), 1, 8) by kernel_rfl)
  exact ⟨i0, hi, hs, hb, hz, rfl⟩⟩
theorem Try.ty89 : TyOK Try.prog 89 ⟨.plain, 1, 8, .nilFunc⟩ := ⟨⟨_, Try.underlying89, ⟨nofun, nofun⟩⟩, by
  obtain ⟨i0, hi, hz, hs, hb⟩ := info_parts (show (Try.prog.info? 89).map (fun i => (i.zero, i.size, i.bytes)) = some (some (.nilFunc), 1, 8) by kernel_rfl)
  exact ⟨i0, hi, hs, hb, hz, rfl⟩⟩
theorem Try.ty90 : TyOK Try.prog 90 ⟨.plain, 1, 8, .nilFunc⟩ := ⟨⟨_, Try.underlying90, ⟨nofun, nofun⟩⟩, by
  obtain ⟨i0, hi, hz, hs, hb⟩ := info_parts (show (Try.prog.info? 90).map (fun i => (i.zero, i.size, i.bytes)) = some (some (.nilFunc), 1, 8) by kernel_rfl)
  exact ⟨i0, hi, hs, hb, hz, rfl⟩⟩
theorem Try.ty91 : TyOK Try.prog 91 ⟨.plain, 1, 8, .nilFunc⟩ := ⟨⟨_, Try.underlying91, ⟨nofun, nofun⟩⟩, by
  obtain ⟨i0, hi, hz, hs, hb⟩ := info_parts (show (Try.prog.info? 91).map (fun i => (i.zero, i.size, i.bytes)) = some (some (.nilFunc), 1, 8) by kernel_rfl)
  exact ⟨i0, hi, hs, hb, hz, rfl⟩⟩
theorem Try.ty92 : TyOK Try.prog 92 ⟨.plain, 1, 8, .nilFunc⟩ := ⟨⟨_, Try.underlying92, ⟨nofun, nofun⟩⟩, by
  obtain ⟨i0, hi, hz, hs, hb⟩ := info_parts (show (Try.prog.info? 92).map (fun i => (i.zero, i.size, i.bytes)) = some (some (.nilFunc), 1, 8) by kernel_rfl)
  exact ⟨i0, hi, hs, hb, hz, rfl⟩⟩
theorem Try.ty93 : TyOK Try.prog 93 ⟨.plain, 1, 8, .nilFunc⟩ := ⟨⟨_, Try.underlying93, ⟨nofun, nofun⟩⟩, by
  obtain ⟨i0, hi, hz, hs, hb⟩ := info_parts (show (Try.prog.info? 93).map (fun i => (i.zero, i.size, i.bytes)) = some (some (.nilFunc), 1, 8) by kernel_rfl)
  exact ⟨i0, hi, hs, hb, hz, rfl⟩⟩
theorem Try.ty94 : TyOK Try.prog 94 ⟨.plain, 1, 8, .nilFunc⟩ := ⟨⟨_, Try.underlying94, ⟨nofun, nofun⟩⟩, by
  obtain ⟨i0, hi, hz, hs, hb⟩ := info_parts (show (Try.prog.info? 94).map (fun i => (i.zero, i.size, i.bytes)) = some (some (.nilFunc), 1, 8) by kernel_rfl)
  exact ⟨i0, hi, hs, hb, hz, rfl⟩⟩
theorem Try.ty96 : TyOK Try.prog 96 ⟨.plain, 1, 8, .nilFunc⟩ := ⟨⟨_, Try.underlying96, ⟨nofun, nofun⟩⟩, by
  obtain ⟨i0, hi, hz, hs, hb⟩ := info_parts (show (Try.prog.info? 96).map (fun i => (i.zero, i.size, i.bytes)) = some (some (.nilFunc), 1, 8) by kernel_rfl)
  exact ⟨i0, hi, hs, hb, hz, rfl⟩⟩
theorem Try.ty97 : TyOK Try.prog 97 ⟨.plain, 1, 8, .nilFunc⟩ := ⟨⟨_, Try.underlying97, ⟨nofun, nofun⟩⟩, by
  obtain ⟨i0, hi, hz, hs, hb⟩ := info_parts (show (Try.prog.info? 97).map (fun i => (i.zero, i.size, i.bytes)) = some (some (.nilFunc), 1, 8) by kernel_rfl)
  exact ⟨i0, hi, hs, hb, hz, rfl⟩⟩
theorem Try.ty98 : TyOK Try.prog 98 ⟨.plain, 1, 8, .nilFunc⟩ := ⟨⟨_, Try.underlying98, ⟨nofun, nofun⟩⟩, by
  obtain ⟨i0, hi, hz, hs, hb⟩ := info_parts (show (Try.prog.info? 98).map (fun i => (i.zero, i.size, i.bytes)) = some (some (.nilFunc), 1, 8) by kernel_rfl)
  exact ⟨i0, hi, hs, hb, hz, rfl⟩⟩
theorem Try.ty99 : TyOK Try.prog 99 ⟨.plain, 1, 8, .nilFunc⟩ := ⟨⟨_, Try.underlying99, ⟨nofun, nofun⟩⟩, by
  obtain ⟨i0, hi, hz, hs, hb⟩ := info_parts (show (Try.prog.info? 99).map (fun i => (i.zero, i.size, i.bytes)) = some (some (.nilFunc), 1, 8) by kernel_rfl)
  exact ⟨i0, hi, hs, hb, hz, rfl⟩⟩
theorem Try.ty100 : TyOK Try.prog 100 ⟨.plain, 1, 8, .nilFunc⟩ := ⟨⟨_, Try.underlying100, ⟨nofun, nofun⟩⟩, by
  obtain ⟨i0, hi, hz, hs, hb⟩ := info_parts (show (Try.prog.info? 100).map (fun i => (i.zero, i.size, i.bytes)) = some (some (.nilFunc), 1, 8) by kernel_rfl)
  exact ⟨i0, hi, hs, hb, hz, rfl⟩⟩
theorem Try.ty101 : TyOK Try.prog 101 ⟨.plain, 1, 8, .nilFunc⟩ := ⟨⟨_, Try.underlying101, ⟨nofun, nofun⟩⟩, by
  obtain ⟨i0, hi, hz, hs, hb⟩ := info_parts (show (Try.prog.info? 101).map (fun i => (i.zero, i.size, i.bytes)) = some (some (.nilFunc), 1, 8) by kernel_rfl)
  exact ⟨i0, hi, hs, hb, hz, rfl⟩⟩
theorem Try.ty102 : TyOK Try.prog 102 ⟨.plain, 1, 8, .nilFunc⟩ := ⟨⟨_, Try.underlying102, ⟨nofun, nofun⟩⟩, by
  obtain ⟨i0, hi, hz, hs, hb⟩ := info_parts (show (Try.prog.info? 102).map (fun i => (i.zero, i.size, i.bytes)) = some (some (.nilFunc), 1, 8) by kernel_rfl)
  exact ⟨i0, hi, hs, hb, hz, rfl⟩⟩
theorem Try.ty103 : TyOK Try.prog 103 ⟨.plain, 1, 8, .nilFunc⟩ := ⟨⟨_, Try.underlying103, ⟨nofun, nofun⟩⟩, by
  obtain ⟨i0, hi, hz, hs, hb⟩ := info_parts (show (Try.prog.info? 103).map (fun i => (i.zero, i.size, i.bytes)) = some (some (.nilFunc), 1, 8) by kernel_rfl)
  exact ⟨i0, hi, hs, hb, hz, rfl⟩⟩
theorem Try.ty104 : TyOK Try.prog 104 ⟨.plain, 1, 8, .nilFunc⟩ := ⟨⟨_, Try.underlying104, ⟨nofun, nofun⟩⟩, by
  obtain ⟨i0, hi, hz, hs, hb⟩ := info_parts (show (Try.prog.info? 104).map (fun i => (i.zero, i.size, i.bytes)) = some (some (.nilFunc), 1, 8) by kernel_rfl)
  exact ⟨i0, hi, hs, hb, hz, rfl⟩⟩
theorem Try.ty105 : TyOK Try.prog 105 ⟨.plain, 1, 8, .nilFunc⟩ := ⟨⟨_, Try.underlying105, ⟨nofun, nofun⟩⟩, by
  obtain ⟨i0, hi, hz, hs, hb⟩ := info_parts (show (Try.prog.info? 105).map (fun i => (i.zero, i.size, i.bytes)) = some (some (.nilFunc), 1, 8) by kernel_rfl)
  exact ⟨i0, hi, hs, hb, hz, rfl⟩⟩
theorem Try.ty106 : TyOK Try.prog 106 ⟨.plain, 1, 8, .nilFunc⟩ := ⟨⟨_, Try.underlying106, ⟨nofun, nofun⟩⟩, by
  obtain ⟨i0, hi, hz, hs, hb⟩ := info_parts (show (Try.prog.info? 106).map (fun i => (i.zero, i.size, i.bytes)) = some (some (.nilFunc), 1, 8) by kernel_rfl)
  exact ⟨i0, hi, hs, hb, hz, rfl⟩⟩
theorem Try.ty107 : TyOK Try.prog 107 ⟨.plain, 1, 8, .nilFunc⟩ := ⟨⟨_, Try.underlying107, ⟨nofun, nofun⟩⟩, by
  obtain ⟨i0, hi, hz, hs, hb⟩ := info_parts (show (Try.prog.info? 107).map (fun i => (i.zero, i.size, i.bytes)) = some (some (.nilFunc), 1, 8) by kernel_rfl)
  exact ⟨i0, hi, hs, hb, hz, rfl⟩⟩
theorem Try.ty108 : TyOK Try.prog 108 ⟨.plain, 1, 8, .nilFunc⟩ := ⟨⟨_, Try.underlying108, ⟨nofun, nofun⟩⟩, by
  obtain ⟨i0, hi, hz, hs, hb⟩ := info_parts (show (Try.prog.info? 108).map (fun i => (i.zero, i.size, i.bytes)) = some (some (.nilFunc), 1, 8) by kernel_rfl)
  exact ⟨i0, hi, hs, hb, hz, rfl⟩⟩
theorem Try.ty109 : TyOK Try.prog 109 ⟨.plain, 1, 8, .nilFunc⟩ := ⟨⟨_, Try.underlying109, ⟨nofun, nofun⟩⟩, by
  obtain ⟨i0, hi, hz, hs, hb⟩ := info_parts (show (Try.prog.info? 109).map (fun i => (i.zero, i.size, i.bytes)) = some (some (.nilFunc), 1, 8) by kernel_rfl)
  exact ⟨i0, hi, hs, hb, hz, rfl⟩⟩
theorem Try.ty110 : TyOK Try.prog 110 ⟨.plain, 1, 8, .nilFunc⟩ := ⟨⟨_, Try.underlying110, ⟨nofun, nofun⟩⟩, by
  obtain ⟨i0, hi, hz, hs, hb⟩ := info_parts (show (Try.prog.info? 110).map (fun i => (i.zero, i.size, i.bytes)) = some (some (.nilFunc), 1, 8) by kernel_rfl)
  exact ⟨i0, hi, hs, hb, hz, rfl⟩⟩
theorem Try.ty111 : TyOK Try.prog 111 ⟨.array 19 4, 19, 19, .agg #[.bool false, .bool false, .bool false, .bool false, .bool false, .bool false, .bool false, .bool false, .bool false, .bool false, .bool false, .bool false, .bool false, .bool false, .bool false, .bool false, .bool false, .bool false, .bool false]⟩ := ⟨⟨_, Try.underlying111, rfl⟩, by
  obtain ⟨i0, hi, hz, hs, hb⟩ := info_parts (show (Try.prog.info? 111).map (fun i => (i.zero, i.size, i.bytes)) = some (some (.agg #[.bool false, .bool false, .bool false, .bool false, .bool false, .bool false, .bool false, .bool false, .bool false, .bool false, .bool false, .bool false, .bool false, .bool false, .bool false, .bool false, .bool false, .bool false, .bool false]), 19, 19) by kernel_rfl)
  exact ⟨i0, hi, hs, hb, hz, rfl⟩⟩
theorem Try.ty112 : TyOK Try.prog 112 ⟨.plain, 1, 8, .nilFunc⟩ := ⟨⟨_, Try.underlying112, ⟨nofun, nofun⟩⟩, by
  obtain ⟨i0, hi, hz, hs, hb⟩ := info_parts (show (Try.prog.info? 112).map (fun i => (i.zero, i.size, i.bytes)) = some (some (.nilFunc), 1, 8) by kernel_rfl)
  exact ⟨i0, hi, hs, hb, hz, rfl⟩⟩
theorem Try.ty113 : TyOK Try.prog 113 ⟨.plain, 1, 8, .nilFunc⟩ := ⟨⟨_, Try.underlying113, ⟨nofun, nofun⟩⟩, by
  obtain ⟨i0, hi, hz, hs, hb⟩ := info_parts (show (Try.prog.info? 113).map (fun i => (i.zero, i.size, i.bytes)) = some (some (.nilFunc), 1, 8) by kernel_rfl)
  exact ⟨i0, hi, hs, hb, hz, rfl⟩⟩
theorem Try.ty114 : TyOK Try.prog 114 ⟨.plain, 1, 8, .nilFunc⟩ := ⟨⟨_, Try.underlying114, ⟨nofun, nofun⟩⟩, by
  obtain ⟨i0, hi, hz, hs, hb⟩ := info_parts (show (Try.prog.info? 114).map (fun i => (i.zero, i.size, i.bytes)) = some (some (.nilFunc), 1, 8) by kernel_rfl)
  exact ⟨i0, hi, hs, hb, hz, rfl⟩⟩
theorem Try.ty115 : TyOK Try.prog 115 ⟨.plain, 1, 8, .nilFunc⟩ := ⟨⟨_, Try.underlying115, ⟨nofun, nofun⟩⟩, by
  obtain ⟨i0, hi, hz, hs, hb⟩ := info_parts (show (Try.prog.info? 115).map (fun i => (i.zero, i.size, i.bytes)) = some (some (.nilFunc), 1, 8) by kernel_rfl)
  exact ⟨i0, hi, hs, hb, hz, rfl⟩⟩
theorem Try.ty116 : TyOK Try.prog 116 ⟨.strct [(0, 17), (1, 17), (2, 17), (3, 9)], 4, 40, .agg #[.pointer none, .pointer none, .pointer none, .string ByteArray.empty]⟩ := ⟨⟨_, Try.underlying116, ⟨_, rfl, rfl⟩⟩, by
  obtain ⟨i0, hi, hz, hs, hb⟩ := info_parts (show (Try.prog.info? 116).map (fun i => (i.zero, i.size, i.bytes)) = some (some (.agg #[.pointer none, .pointer none, .pointer none, .string ByteArray.empty]), 4, 40) by kernel_rfl)
  exact ⟨i0, hi, hs, hb, hz, rfl⟩⟩
theorem Try.ty117 : TyOK Try.prog 117 ⟨.strct [(0, 17), (1, 17), (2, 17), (3, 9)], 4, 40, .agg #[.pointer none, .pointer none, .pointer none, .string ByteArray.empty]⟩ := ⟨⟨_, Try.underlying117, ⟨_, rfl, rfl⟩⟩, by
  obtain ⟨i0, hi, hz, hs, hb⟩ := info_parts (show (Try.prog.info? 117).map (fun i => (i.zero, i.size, i.bytes)) = some (some (.agg #[.pointer none, .pointer none, .pointer none, .string ByteArray.empty]), 4, 40) by kernel_rfl)
  exact ⟨i0, hi, hs, hb, hz, rfl⟩⟩
theorem Try.ty118 : TyOK Try.prog 118 ⟨.array 0 16, 0, 0, .agg #[]⟩ := ⟨⟨_, Try.underlying118, rfl⟩, by
  obtain ⟨i0, hi, hz, hs, hb⟩ := info_parts (show (Try.prog.info? 118).map (fun i => (i.zero, i.size, i.bytes)) = some (some (.agg #[]), 0, 0) by kernel_rfl)
  exact ⟨i0, hi, hs, hb, hz, rfl⟩⟩
theorem Try.ty119 : TyOK Try.prog 119 ⟨.strct [(0, 118)], 0, 0, .agg #[]⟩ := ⟨⟨_, Try.underlying119, ⟨_, rfl, rfl⟩⟩, by
  obtain ⟨i0, hi, hz, hs, hb⟩ := info_parts (show (Try.prog.info? 119).map (fun i => (i.zero, i.size, i.bytes)) = some (some (.agg #[]), 0, 0) by kernel_rfl)
  exact ⟨i0, hi, hs, hb, hz, rfl⟩⟩
theorem Try.ty120 : TyOK Try.prog 120 ⟨.strct [(0, 118)], 0, 0, .agg #[]⟩ := ⟨⟨_, Try.underlying120, ⟨_, rfl, rfl⟩⟩, by
  obtain ⟨i0, hi, hz, hs, hb⟩ := info_parts (show (Try.prog.info? 120).map (fun i => (i.zero, i.size, i.bytes)) = some (some (.agg #[]), 0, 0) by kernel_rfl)
  exact ⟨i0, hi, hs, hb, hz, rfl⟩⟩
theorem Try.ty121 : TyOK Try.prog 121 ⟨.plain, 1, 8, .nilFunc⟩ := ⟨⟨_, Try.underlying121, ⟨nofun, nofun⟩⟩, by
  obtain ⟨i0, hi, hz, hs, hb⟩ := info_parts (show (Try.prog.info? 121).map (fun i => (i.zero, i.size, i.bytes)) = some (some (.nilFunc), 1, 8) by kernel_rfl)
  exact ⟨i0, hi, hs, hb, hz, rfl⟩⟩
theorem Try.ty122 : TyOK Try.prog 122 ⟨.int .u32, 1, 4, .int .u32 0⟩ := ⟨⟨_, Try.underlying122, rfl⟩, by
  obtain ⟨i0, hi, hz, hs, hb⟩ := info_parts (show (Try.prog.info? 122).map (fun i => (i.zero, i.size, i.bytes)) = some (some (.int .u32 0), 1, 4) by kernel_rfl)
  exact ⟨i0, hi, hs, hb, hz, rfl⟩⟩
theorem Try.ty123 : TyOK Try.prog 123 ⟨.int .u8, 1, 1, .int .u8 0⟩ := ⟨⟨_, Try.underlying123, rfl⟩, by
  obtain ⟨i0, hi, hz, hs, hb⟩ := info_parts (show (Try.prog.info? 123).map (fun i => (i.zero, i.size, i.bytes)) = some (some (.int .u8 0), 1, 1) by kernel_rfl)
  exact ⟨i0, hi, hs, hb, hz, rfl⟩⟩
theorem Try.ty124 : TyOK Try.prog 124 ⟨.int .u8, 1, 1, .int .u8 0⟩ := ⟨⟨_, Try.underlying124, rfl⟩, by
  obtain ⟨i0, hi, hz, hs, hb⟩ := info_parts (show (Try.prog.info? 124).map (fun i => (i.zero, i.size, i.bytes)) = some (some (.int .u8 0), 1, 1) by kernel_rfl)
  exact ⟨i0, hi, hs, hb, hz, rfl⟩⟩
theorem Try.ty125 : TyOK Try.prog 125 ⟨.plain, 1, 8, .nilFunc⟩ := ⟨⟨_, Try.underlying125, ⟨nofun, nofun⟩⟩, by
  obtain ⟨i0, hi, hz, hs, hb⟩ := info_parts (show (Try.prog.info? 125).map (fun i => (i.zero, i.size, i.bytes)) = some (some (.nilFunc), 1, 8) by kernel_rfl)
  exact ⟨i0, hi, hs, hb, hz, rfl⟩⟩
theorem Try.ty126 : TyOK Try.prog 126 ⟨.ptr 5, 1, 8, .pointer none⟩ := ⟨⟨_, Try.underlying126, rfl⟩, by
  obtain ⟨i0, hi, hz, hs, hb⟩ := info_parts (show (Try.prog.info? 126).map (fun i => (i.zero, i.size, i.bytes)) = some (some (.pointer none), 1, 8) by kernel_rfl)
  exact ⟨i0, hi, hs, hb, hz, rfl⟩⟩
theorem Try.ty127 : TyOK Try.prog 127 ⟨.int .i32, 1, 4, .int .i32 0⟩ := ⟨⟨_, Try.underlying127, rfl⟩, by
  obtain ⟨i0, hi, hz, hs, hb⟩ := info_parts (show (Try.prog.info? 127).map (fun i => (i.zero, i.size, i.bytes)) = some (some (.int .i32 0), 1, 4) by kernel_rfl)
  exact ⟨i0, hi, hs, hb, hz, rfl⟩⟩
theorem Try.ty128 : TyOK Try.prog 128 ⟨.int .i32, 1, 4, .int .i32 0⟩ := ⟨⟨_, Try.underlying128, rfl⟩, by
  obtain ⟨i0, hi, hz, hs, hb⟩ := info_parts (show (Try.prog.info? 128).map (fun i => (i.zero, i.size, i.bytes)) = some (some (.int .i32 0), 1, 4) by kernel_rfl)
  exact ⟨i0, hi, hs, hb, hz, rfl⟩⟩
theorem Try.ty129 : TyOK Try.prog 129 ⟨.strct [(0, 12), (1, 12), (2, 122), (3, 123), (4, 5), (5, 5), (6, 124), (7, 125), (8, 126), (9, 127), (10, 128)], 11, 48, .agg #[.int .u64 0, .int .u64 0, .int .u32 0, .int .u8 0, .int .u8 0, .int .u8 0, .int .u8 0, .nilFunc, .pointer none, .int .i32 0, .int .i32 0]⟩ := ⟨⟨_, Try.underlying129, ⟨_, rfl, rfl⟩⟩, by
  obtain ⟨i0, hi, hz, hs, hb⟩ := info_parts (show (Try.prog.info? 129).map (fun i => (i.zero, i.size, i.bytes)) = some (some (.agg #[.int .u64 0, .int .u64 0, .int .u32 0, .int .u8 0, .int .u8 0, .int .u8 0, .int .u8 0, .nilFunc, .pointer none, .int .i32 0, .int .i32 0]), 11, 48) by kernel_rfl)
  exact ⟨i0, hi, hs, hb, hz, rfl⟩⟩
theorem Try.ty130 : TyOK Try.prog 130 ⟨.strct [(0, 12), (1, 12), (2, 122), (3, 123), (4, 5), (5, 5), (6, 124), (7, 125), (8, 126), (9, 127), (10, 128)], 11, 48, .agg #[.int .u64 0, .int .u64 0, .int .u32 0, .int .u8 0, .int .u8 0, .int .u8 0, .int .u8 0, .nilFunc, .pointer none, .int .i32 0, .int .i32 0]⟩ := ⟨⟨_, Try.underlying130, ⟨_, rfl, rfl⟩⟩, by
  obtain ⟨i0, hi, hz, hs, hb⟩ := info_parts (show (Try.prog.info? 130).map (fun i => (i.zero, i.size, i.bytes)) = some (some (.agg #[.int .u64 0, .int .u64 0, .int .u32 0, .int .u8 0, .int .u8 0, .int .u8 0, .int .u8 0, .nilFunc, .pointer none, .int .i32 0, .int .i32 0]), 11, 48) by kernel_rfl)
  exact ⟨i0, hi, hs, hb, hz, rfl⟩⟩
theorem Try.ty131 : TyOK Try.prog 131 ⟨.plain, 1, 8, .pointer none⟩ := ⟨⟨_, Try.underlying131, ⟨nofun, nofun⟩⟩, by
  obtain ⟨i0, hi, hz, hs, hb⟩ := info_parts (show (Try.prog.info? 131).map (fun i => (i.zero, i.size, i.bytes)) = some (some (.pointer none), 1, 8) by kernel_rfl)
  exact ⟨i0, hi, hs, hb, hz, rfl⟩⟩
def Try.tabL : List (Option TyE) := [
  none,
  some ⟨.plain, 1, 8, .nilFunc⟩,
  some ⟨.int .i64, 1, 8, .int .i64 0⟩,
  some ⟨.int .i64, 1, 8, .int .i64 0⟩,
  some ⟨.plain, 1, 1, .bool false⟩,
  some ⟨.int .u8, 1, 1, .int .u8 0⟩,
  some ⟨.int .u8, 1, 1, .int .u8 0⟩,
  some ⟨.strct [(0, 2), (1, 3), (2, 4), (3, 6)], 4, 24, .agg #[.int .i64 0, .int .i64 0, .bool false, .int .u8 0]⟩,
  some ⟨.strct [(0, 2), (1, 3), (2, 4), (3, 6)], 4, 24, .agg #[.int .i64 0, .int .i64 0, .bool false, .int .u8 0]⟩,
  some ⟨.plain, 1, 16, .string ByteArray.empty⟩,
  some ⟨.plain, 1, 16, .string ByteArray.empty⟩,
  some ⟨.plain, 1, 16, .string ByteArray.empty⟩,
  some ⟨.int .u64, 1, 8, .int .u64 0⟩,
  some ⟨.strct [(0, 9), (1, 12)], 2, 24, .agg #[.string ByteArray.empty, .int .u64 0]⟩,
  some ⟨.strct [(0, 9), (1, 12)], 2, 24, .agg #[.string ByteArray.empty, .int .u64 0]⟩,
  some ⟨.ptr 117, 1, 8, .pointer none⟩,
  some ⟨.ptr 120, 1, 8, .pointer none⟩,
  some ⟨.ptr 130, 1, 8, .pointer none⟩,
  some ⟨.strct [(0, 17)], 1, 8, .agg #[.pointer none]⟩,
  some ⟨.strct [(0, 17)], 1, 8, .agg #[.pointer none]⟩,
  some ⟨.plain, 1, 16, .nilIface⟩,
  some ⟨.int .i32, 1, 4, .int .i32 0⟩,
  some ⟨.slice 25, 1, 24, .slice none 0 0⟩,
  some ⟨.plain, 1, 8, .nilFunc⟩,
  some ⟨.plain, 1, 8, .nilFunc⟩,
  some ⟨.slice 3, 1, 24, .slice none 0 0⟩,
  some ⟨.int .i64, 1, 8, .int .i64 0⟩,
  none,
  some ⟨.plain, 1, 8, .nilFunc⟩,
  some ⟨.plain, 1, 8, .nilFunc⟩,
  some ⟨.plain, 1, 8, .nilFunc⟩,
  some ⟨.slice 5, 1, 24, .slice none 0 0⟩,
  none,
  some ⟨.plain, 1, 8, .nilFunc⟩,
  none,
  some ⟨.plain, 1, 8, .nilFunc⟩,
  some ⟨.plain, 1, 8, .nilFunc⟩,
  some ⟨.plain, 1, 8, .nilFunc⟩,
  some ⟨.plain, 1, 8, .nilFunc⟩,
  some ⟨.plain, 1, 8, .nilFunc⟩,
  some ⟨.slice 70, 1, 24, .slice none 0 0⟩,
  some ⟨.plain, 1, 8, .nilFunc⟩,
  some ⟨.slice 40, 1, 24, .slice none 0 0⟩,
  none,
  some ⟨.plain, 1, 8, .nilFunc⟩,
  some ⟨.plain, 1, 8, .nilFunc⟩,
  some ⟨.plain, 1, 8, .nilFunc⟩,
  some ⟨.plain, 1, 8, .nilFunc⟩,
  some ⟨.plain, 1, 8, .nilFunc⟩,
  some ⟨.plain, 1, 8, .nilFunc⟩,
  some ⟨.plain, 1, 8, .nilFunc⟩,
  none,
  some ⟨.plain, 1, 8, .nilFunc⟩,
  some ⟨.plain, 1, 8, .nilFunc⟩,
  some ⟨.plain, 1, 8, .nilFunc⟩,
  some ⟨.plain, 1, 8, .nilFunc⟩,
  some ⟨.plain, 1, 8, .nilFunc⟩,
  some ⟨.plain, 1, 8, .nilFunc⟩,
  some ⟨.slice 4, 1, 24, .slice none 0 0⟩,
  some ⟨.plain, 1, 8, .nilFunc⟩,
  some ⟨.plain, 1, 8, .nilFunc⟩,
  some ⟨.plain, 1, 8, .nilFunc⟩,
  some ⟨.plain, 1, 8, .nilFunc⟩,
  some ⟨.plain, 1, 8, .nilFunc⟩,
  some ⟨.plain, 1, 8, .nilFunc⟩,
  some ⟨.plain, 1, 8, .nilFunc⟩,
  some ⟨.plain, 1, 8, .nilFunc⟩,
  some ⟨.plain, 1, 8, .nilFunc⟩,
  some ⟨.plain, 1, 8, .nilFunc⟩,
  some ⟨.strct [(0, 3), (1, 3)], 2, 16, .agg #[.int .i64 0, .int .i64 0]⟩,
  some ⟨.strct [(0, 3), (1, 3)], 2, 16, .agg #[.int .i64 0, .int .i64 0]⟩,
  some ⟨.ptr 77, 1, 8, .pointer none⟩,
  none,
  some ⟨.plain, 1, 8, .nilFunc⟩,
  some ⟨.slice 82, 1, 24, .slice none 0 0⟩,
  some ⟨.map 3 25, 1, 8, .map none⟩,
  some ⟨.strct [(0, 22), (1, 74), (2, 75)], 3, 56, .agg #[.slice none 0 0, .slice none 0 0, .map none]⟩,
  some ⟨.strct [(0, 22), (1, 74), (2, 75)], 3, 56, .agg #[.slice none 0 0, .slice none 0 0, .map none]⟩,
  none,
  some ⟨.plain, 1, 8, .nilFunc⟩,
  some ⟨.int .u64, 1, 8, .int .u64 0⟩,
  some ⟨.array 1 80, 1, 8, .agg #[.int .u64 0]⟩,
  some ⟨.array 1 80, 1, 8, .agg #[.int .u64 0]⟩,
  some ⟨.plain, 1, 8, .nilFunc⟩,
  some ⟨.plain, 1, 8, .nilFunc⟩,
  some ⟨.plain, 1, 8, .nilFunc⟩,
  some ⟨.plain, 1, 8, .nilFunc⟩,
  some ⟨.plain, 1, 8, .nilFunc⟩,
  some ⟨.plain, 1, 8, .nilFunc⟩,
  some ⟨.plain, 1, 8, .nilFunc⟩,
  some ⟨.plain, 1, 8, .nilFunc⟩,
  some ⟨.plain, 1, 8, .nilFunc⟩,
  some ⟨.plain, 1, 8, .nilFunc⟩,
  some ⟨.plain, 1, 8, .nilFunc⟩,
  some ⟨.plain, 1, 8, .nilFunc⟩,
  none,
  some ⟨.plain, 1, 8, .nilFunc⟩,
  some ⟨.plain, 1, 8, .nilFunc⟩,
  some ⟨.plain, 1, 8, .nilFunc⟩,
  some ⟨.plain, 1, 8, .nilFunc⟩,
  some ⟨.plain, 1, 8, .nilFunc⟩,
  some ⟨.plain, 1, 8, .nilFunc⟩,
  some ⟨.plain, 1, 8, .nilFunc⟩,
  some ⟨.plain, 1, 8, .nilFunc⟩,
  some ⟨.plain, 1, 8, .nilFunc⟩,
  some ⟨.plain, 1, 8, .nilFunc⟩,
  some ⟨.plain, 1, 8, .nilFunc⟩,
  some ⟨.plain, 1, 8, .nilFunc⟩,
  some ⟨.plain, 1, 8, .nilFunc⟩,
  some ⟨.plain, 1, 8, .nilFunc⟩,
  some ⟨.plain, 1, 8, .nilFunc⟩,
  some ⟨.array 19 4, 19, 19, .agg #[.bool false, .bool false, .bool false, .bool false, .bool false, .bool false, .bool false, .bool false, .bool false, .bool false, .bool false, .bool false, .bool false, .bool false, .bool false, .bool false, .bool false, .bool false, .bool false]⟩,
  some ⟨.plain, 1, 8, .nilFunc⟩,
  some ⟨.plain, 1, 8, .nilFunc⟩,
  some ⟨.plain, 1, 8, .nilFunc⟩,
  some ⟨.plain, 1, 8, .nilFunc⟩,
  some ⟨.strct [(0, 17), (1, 17), (2, 17), (3, 9)], 4, 40, .agg #[.pointer none, .pointer none, .pointer none, .string ByteArray.empty]⟩,
  some ⟨.strct [(0, 17), (1, 17), (2, 17), (3, 9)], 4, 40, .agg #[.pointer none, .pointer none, .pointer none, .string ByteArray.empty]⟩,
  some ⟨.array 0 16, 0, 0, .agg #[]⟩,
  some ⟨.strct [(0, 118)], 0, 0, .agg #[]⟩,
  some ⟨.strct [(0, 118)], 0, 0, .agg #[]⟩,
  some ⟨.plain, 1, 8, .nilFunc⟩,
  some ⟨.int .u32, 1, 4, .int .u32 0⟩,
  some ⟨.int .u8, 1, 1, .int .u8 0⟩,
  some ⟨.int .u8, 1, 1, .int .u8 0⟩,
  some ⟨.plain, 1, 8, .nilFunc⟩,
  some ⟨.ptr 5, 1, 8, .pointer none⟩,
  some ⟨.int .i32, 1, 4, .int .i32 0⟩,
  some ⟨.int .i32, 1, 4, .int .i32 0⟩,
  some ⟨.strct [(0, 12), (1, 12), (2, 122), (3, 123), (4, 5), (5, 5), (6, 124), (7, 125), (8, 126), (9, 127), (10, 128)], 11, 48, .agg #[.int .u64 0, .int .u64 0, .int .u32 0, .int .u8 0, .int .u8 0, .int .u8 0, .int .u8 0, .nilFunc, .pointer none, .int .i32 0, .int .i32 0]⟩,
  some ⟨.strct [(0, 12), (1, 12), (2, 122), (3, 123), (4, 5), (5, 5), (6, 124), (7, 125), (8, 126), (9, 127), (10, 128)], 11, 48, .agg #[.int .u64 0, .int .u64 0, .int .u32 0, .int .u8 0, .int .u8 0, .int .u8 0, .int .u8 0, .nilFunc, .pointer none, .int .i32 0, .int .i32 0]⟩,
  some ⟨.plain, 1, 8, .pointer none⟩]
def Try.tab : Tab := fun t => nthT Try.tabL t
set_option maxRecDepth 100000 in
theorem Try.tabOK : TabOK Try.prog Try.tab := allOK_tab (L := Try.tabL) ⟨Try.ty1, Try.ty2, Try.ty3, Try.ty4, Try.ty5, Try.ty6, Try.ty7, Try.ty8, Try.ty9, Try.ty10, Try.ty11, Try.ty12, Try.ty13, Try.ty14, Try.ty15, Try.ty16, Try.ty17, Try.ty18, Try.ty19, Try.ty20, Try.ty21, Try.ty22, Try.ty23, Try.ty24, Try.ty25, Try.ty26, Try.ty28, Try.ty29, Try.ty30, Try.ty31, Try.ty33, Try.ty35, Try.ty36, Try.ty37, Try.ty38, Try.ty39, Try.ty40, Try.ty41, Try.ty42, Try.ty44, Try.ty45, Try.ty46, Try.ty47, Try.ty48, Try.ty49, Try.ty50, Try.ty52, Try.ty53, Try.ty54, Try.ty55, Try.ty56, Try.ty57, Try.ty58, Try.ty59, Try.ty60, Try.ty61, Try.ty62, Try.ty63, Try.ty64, Try.ty65, Try.ty66, Try.ty67, Try.ty68, Try.ty69, Try.ty70, Try.ty71, Try.ty73, Try.ty74, Try.ty75, Try.ty76, Try.ty77, Try.ty79, Try.ty80, Try.ty81, Try.ty82, Try.ty83, Try.ty84, Try.ty85, Try.ty86, Try.ty87, Try.ty88, Try.ty89, Try.ty90, Try.ty91, Try.ty92, Try.ty93, Try.ty94, Try.ty96, Try.ty97, Try.ty98, Try.ty99, Try.ty100, Try.ty101, Try.ty102, Try.ty103, Try.ty104, Try.ty105, Try.ty106, Try.ty107, Try.ty108, Try.ty109, Try.ty110, Try.ty111, Try.ty112, Try.ty113, Try.ty114, Try.ty115, Try.ty116, Try.ty117, Try.ty118, Try.ty119, Try.ty120, Try.ty121, Try.ty122, Try.ty123, Try.ty124, Try.ty125, Try.ty126, Try.ty127, Try.ty128, Try.ty129, Try.ty130, Try.ty131, trivial⟩
abbrev Tc.int : Nat := 3
abbrev Tc.bool : Nat := 4
abbrev Tc.string : Nat := 9
abbrev Tc.Lint : Nat := 25
abbrev Tc.line_graph : Nat := 77
abbrev Tc.line_set : Nat := 82
end Go.Proofs
/- Go's slices: Index, Contains, IndexFunc, ContainsFunc, Clone, Equal. -/
namespace Go.Proofs
open Go Go.W Go.V
theorem s_slices_Index_Lint_int (l : List Int) (n : Int) : V.Spec Try.prog Fc.slices_Index_Lint_int [ints l, V.int n] [] (V.int (fidx (fun x => n == x) 0 l)) [] := by
  refine V.Spec.enter Try.tabOK Try.mixed Fn.slices_Index_Lint_int rfl rfl rfl fun B hB => ?_
  refine TC.bl 0 fun hl => ?_
  repeat' (first
   | (with_reducible refine OL.st ?_)
   | (with_reducible refine TC.region ?_)
   | (with_reducible refine TC.seq ?_)
   | (with_reducible refine OL.nil ?_)
   | (with_reducible refine TX.thenN ?_)
   | (with_reducible refine TC.block ?_)
   | fail)
  refine TC.lp (fun k : Nat => [(0, ints l), (1, V.int n), (7, V.int l.length), (8, V.int k)]) (fun _ => []) (fun k => k ≤ l.length ∧ fidx (fun x => n == x) 0 l = fidx (fun x => n == x) k (l.drop k)) (fun k => l.length - k) 0 [] ⟨Nat.zero_le _, rfl⟩ ?_
  rintro k ⟨hk, hinv⟩
  repeat' (first
   | (with_reducible refine OL.st ?_)
   | (with_reducible refine TC.region ?_)
   | (with_reducible refine TC.seq ?_)
   | (with_reducible refine OL.nil ?_)
   | (with_reducible refine TX.thenN ?_)
   | (with_reducible refine TC.block ?_)
   | (with_reducible refine TC.skip ?_)
   | (with_reducible refine TX.blkN ?_)
   | (with_reducible refine TC.exit ?_)
   | (with_reducible refine TX.hit ?_)
   | (with_reducible refine TX.thenX ?_)
   | (with_reducible refine TC.ifD ?_ ?_ <;> (intro hc; try (exfalso; omega)))
   | (with_reducible refine TC.ret ?_)
   | (with_reducible refine TX.thenR ?_)
   | (with_reducible refine TX.blkR ?_)
   | fail)
  · refine TX.rt1 [] (.int ?_)
    rw [hinv, drop_cons (by omega)]
    simp [fidx, ← hc]
  · refine TX.rd (k + 1) [] ⟨by omega, ?_⟩ (by omega)
    rw [hinv, drop_cons (by omega)]
    simp [fidx, hc]
  · refine TX.rt1 [] (.int ?_)
    rw [hinv, drop_nil (by omega)]
    rfl
theorem s_slices_Contains_Lint_int (l : List Int) (n : Int) : V.Spec Try.prog Fc.slices_Contains_Lint_int [ints l, V.int n] [] (V.bool (l.contains n)) [] := by
  refine V.Spec.enter Try.tabOK Try.mixed Fn.slices_Contains_Lint_int rfl rfl rfl fun B hB => ?_
  repeat' (first
   | (with_reducible refine OL.st ?_)
   | (with_reducible refine TC.region ?_)
   | (with_reducible refine TC.seq ?_)
   | (with_reducible refine OL.nil ?_)
   | (with_reducible refine TX.thenN ?_)
   | fail)
  refine OL.c (s_slices_Index_Lint_int l n) Fn.slices_Index_Lint_int ?_
  repeat' (first
   | (with_reducible refine OL.st ?_)
   | (with_reducible refine OL.nil ?_)
   | (with_reducible refine TX.thenN ?_)
   | (with_reducible refine TC.ret ?_)
   | fail)
  refine TX.rt1 [] (.bool ?_)
  rw [← any_beq_contains]
  cases h : l.any fun x => n == x
  · rw [decide_eq_false]; intro h'; rw [(fidx_nonneg _ _ _).1 h'] at h; cases h
  · exact decide_eq_true ((fidx_nonneg _ _ _).2 h)
theorem s_slices_IndexFunc_Lint_int (l : List (Int)) (p : Int → Bool) : V.Spec Try.prog Fc.slices_IndexFunc_Lint_int [.sl 1 none (l.map V.int), predE Try.prog V.int (· ∈ l) p] [] (V.int (fidx p 0 l)) [] := by
  refine V.Spec.enter Try.tabOK Try.mixed Fn.slices_IndexFunc_Lint_int rfl rfl rfl fun B hB => ?_
  refine TC.bl 0 fun hl => ?_
  repeat' (first
   | (with_reducible refine OL.st ?_)
   | (with_reducible refine TC.region ?_)
   | (with_reducible refine TC.seq ?_)
   | (with_reducible refine OL.nil ?_)
   | (with_reducible refine TX.thenN ?_)
   | (with_reducible refine TC.block ?_)
   | fail)
  refine TC.lp (fun k : Nat => [(0, .sl 1 none (l.map V.int)), (1, predE Try.prog V.int (· ∈ l) p), (7, V.int l.length), (8, V.int k)]) (fun _ => []) (fun k => k ≤ l.length ∧ fidx p 0 l = fidx p k (l.drop k)) (fun k => l.length - k) 0 [] ⟨Nat.zero_le _, rfl⟩ ?_
  rintro k ⟨hk, hinv⟩
  repeat' (first
   | (with_reducible refine OL.st ?_)
   | (with_reducible refine TC.region ?_)
   | (with_reducible refine TC.seq ?_)
   | (with_reducible refine OL.nil ?_)
   | (with_reducible refine TX.thenN ?_)
   | (with_reducible refine TC.block ?_)
   | (with_reducible refine TC.skip ?_)
   | (with_reducible refine TC.exit ?_)
   | (with_reducible refine TX.hit ?_)
   | (with_reducible refine TX.thenX ?_)
   | (with_reducible refine TC.ifD ?_ ?_ <;> (intro hc; try (exfalso; omega)))
   | (with_reducible refine TC.ret ?_)
   | fail)
  · refine OL.cf l[k] (List.getElem_mem _) ?_
    repeat' (first | (with_reducible refine OL.nil ?_) | (with_reducible refine TX.thenN ?_) | fail)
    refine TC.ifB (fun hp => ?_) (fun hp => ?_)
    · repeat' (first
       | (with_reducible refine OL.st ?_)
       | (with_reducible refine TC.region ?_)
       | (with_reducible refine TC.seq ?_)
       | (with_reducible refine OL.nil ?_)
       | (with_reducible refine TX.thenN ?_)
       | (with_reducible refine TC.ret ?_)
       | (with_reducible refine TX.thenR ?_)
       | (with_reducible refine TX.blkR ?_)
       | fail)
      refine TX.rt1 [] (.int ?_)
      rw [hinv, drop_cons (by omega)]
      simp [fidx, hp]
    · repeat' (first
       | (with_reducible refine OL.st ?_)
       | (with_reducible refine TC.region ?_)
       | (with_reducible refine OL.nil ?_)
       | (with_reducible refine TX.thenN ?_)
       | (with_reducible refine TC.skip ?_)
       | (with_reducible refine TX.blkN ?_)
       | fail)
      refine TX.rd (k + 1) [] ⟨by omega, ?_⟩ (by omega)
      rw [hinv, drop_cons (by omega)]
      simp [fidx, hp]
  · refine TX.rt1 [] (.int ?_)
    rw [hinv, drop_nil (by omega)]
    rfl
theorem s_slices_ContainsFunc_Lint_int (l : List (Int)) (p : Int → Bool) : V.Spec Try.prog Fc.slices_ContainsFunc_Lint_int [.sl 1 none (l.map V.int), predE Try.prog V.int (· ∈ l) p] [] (V.bool (l.any p)) [] := by
  refine V.Spec.enter Try.tabOK Try.mixed Fn.slices_ContainsFunc_Lint_int rfl rfl rfl fun B hB => ?_
  repeat' (first
   | (with_reducible refine OL.st ?_)
   | (with_reducible refine TC.region ?_)
   | (with_reducible refine TC.seq ?_)
   | (with_reducible refine OL.nil ?_)
   | (with_reducible refine TX.thenN ?_)
   | fail)
  refine OL.c (s_slices_IndexFunc_Lint_int l p) Fn.slices_IndexFunc_Lint_int ?_
  repeat' (first
   | (with_reducible refine OL.st ?_)
   | (with_reducible refine OL.nil ?_)
   | (with_reducible refine TX.thenN ?_)
   | (with_reducible refine TC.ret ?_)
   | fail)
  refine TX.rt1 [] (.bool ?_)
  cases h : l.any p
  · rw [decide_eq_false]; intro h'; rw [(fidx_nonneg _ _ _).1 h'] at h; cases h
  · exact decide_eq_true ((fidx_nonneg _ _ _).2 h)
theorem s_slices_IndexFunc_LLint_Lint (l : List (List Int)) (p : List Int → Bool) : V.Spec Try.prog Fc.slices_IndexFunc_LLint_Lint [.sl 1 none (l.map ints), predE Try.prog ints (· ∈ l) p] [] (V.int (fidx p 0 l)) [] := by
  refine V.Spec.enter Try.tabOK Try.mixed Fn.slices_IndexFunc_LLint_Lint rfl rfl rfl fun B hB => ?_
  refine TC.bl 0 fun hl => ?_
  repeat' (first
   | (with_reducible refine OL.st ?_)
   | (with_reducible refine TC.region ?_)
   | (with_reducible refine TC.seq ?_)
   | (with_reducible refine OL.nil ?_)
   | (with_reducible refine TX.thenN ?_)
   | (with_reducible refine TC.block ?_)
   | fail)
  refine TC.lp (fun k : Nat => [(0, .sl 1 none (l.map ints)), (1, predE Try.prog ints (· ∈ l) p), (7, V.int l.length), (8, V.int k)]) (fun _ => []) (fun k => k ≤ l.length ∧ fidx p 0 l = fidx p k (l.drop k)) (fun k => l.length - k) 0 [] ⟨Nat.zero_le _, rfl⟩ ?_
  rintro k ⟨hk, hinv⟩
  repeat' (first
   | (with_reducible refine OL.st ?_)
   | (with_reducible refine TC.region ?_)
   | (with_reducible refine TC.seq ?_)
   | (with_reducible refine OL.nil ?_)
   | (with_reducible refine TX.thenN ?_)
   | (with_reducible refine TC.block ?_)
   | (with_reducible refine TC.skip ?_)
   | (with_reducible refine TC.exit ?_)
   | (with_reducible refine TX.hit ?_)
   | (with_reducible refine TX.thenX ?_)
   | (with_reducible refine TC.ifD ?_ ?_ <;> (intro hc; try (exfalso; omega)))
   | (with_reducible refine TC.ret ?_)
   | fail)
  · refine OL.cf l[k] (List.getElem_mem _) ?_
    repeat' (first | (with_reducible refine OL.nil ?_) | (with_reducible refine TX.thenN ?_) | fail)
    refine TC.ifB (fun hp => ?_) (fun hp => ?_)
    · repeat' (first
       | (with_reducible refine OL.st ?_)
       | (with_reducible refine TC.region ?_)
       | (with_reducible refine TC.seq ?_)
       | (with_reducible refine OL.nil ?_)
       | (with_reducible refine TX.thenN ?_)
       | (with_reducible refine TC.ret ?_)
       | (with_reducible refine TX.thenR ?_)
       | (with_reducible refine TX.blkR ?_)
       | fail)
      refine TX.rt1 [] (.int ?_)
      rw [hinv, drop_cons (by omega)]
      simp [fidx, hp]
    · repeat' (first
       | (with_reducible refine OL.st ?_)
       | (with_reducible refine TC.region ?_)
       | (with_reducible refine OL.nil ?_)
       | (with_reducible refine TX.thenN ?_)
       | (with_reducible refine TC.skip ?_)
       | (with_reducible refine TX.blkN ?_)
       | fail)
      refine TX.rd (k + 1) [] ⟨by omega, ?_⟩ (by omega)
      rw [hinv, drop_cons (by omega)]
      simp [fidx, hp]
  · refine TX.rt1 [] (.int ?_)
    rw [hinv, drop_nil (by omega)]
    rfl
theorem s_slices_ContainsFunc_LLint_Lint (l : List (List Int)) (p : List Int → Bool) : V.Spec Try.prog Fc.slices_ContainsFunc_LLint_Lint [.sl 1 none (l.map ints), predE Try.prog ints (· ∈ l) p] [] (V.bool (l.any p)) [] := by
  refine V.Spec.enter Try.tabOK Try.mixed Fn.slices_ContainsFunc_LLint_Lint rfl rfl rfl fun B hB => ?_
  repeat' (first
   | (with_reducible refine OL.st ?_)
   | (with_reducible refine TC.region ?_)
   | (with_reducible refine TC.seq ?_)
   | (with_reducible refine OL.nil ?_)
   | (with_reducible refine TX.thenN ?_)
   | fail)
  refine OL.c (s_slices_IndexFunc_LLint_Lint l p) Fn.slices_IndexFunc_LLint_Lint ?_
  repeat' (first
   | (with_reducible refine OL.st ?_)
   | (with_reducible refine OL.nil ?_)
   | (with_reducible refine TX.thenN ?_)
   | (with_reducible refine TC.ret ?_)
   | fail)
  refine TX.rt1 [] (.bool ?_)
  cases h : l.any p
  · rw [decide_eq_false]; intro h'; rw [(fidx_nonneg _ _ _).1 h'] at h; cases h
  · exact decide_eq_true ((fidx_nonneg _ _ _).2 h)
theorem s_line_keep_int (l : List Int) (p : Int → Bool) (hb : l.length ≤ 1000000000) : V.Spec Try.prog Fc.line_keep_int [ints l, predI Try.prog (· ∈ l) p] [] (.hs 0) [.gs false Tc.int 1 none ((l.filter p).map V.int)] := by
  refine V.Spec.enter Try.tabOK Try.mixed Fn.line_keep_int rfl rfl rfl fun B hB => ?_
  repeat' (first
   | (with_reducible refine OL.st ?_)
   | (with_reducible refine TC.region ?_)
   | (with_reducible refine TC.seq ?_)
   | (with_reducible refine OL.nil ?_)
   | (with_reducible refine TX.thenN ?_)
   | (with_reducible refine TC.block ?_)
   | fail)
  refine TC.adp 5 Tc.int 1 ?_
  refine TC.lp (fun k : Nat => [(1, predI Try.prog (· ∈ l) p), (5, .hs 0), (8, ints l), (9, V.int l.length), (10, V.int k)]) (fun k => [.gs false Tc.int 1 none (((l.take k).filter p).map V.int)]) (fun k => k ≤ l.length) (fun k => l.length - k) 0 [0] (Nat.zero_le _) ?_
  rintro k hk
  have hfl : ((l.take k).filter p).length ≤ l.length := Nat.le_trans (List.length_filter_le _ _) (by simp; omega)
  repeat' (first
   | (with_reducible refine OL.st ?_)
   | (with_reducible refine TC.region ?_)
   | (with_reducible refine TC.seq ?_)
   | (with_reducible refine OL.nil ?_)
   | (with_reducible refine TX.thenN ?_)
   | (with_reducible refine TC.block ?_)
   | (with_reducible refine TC.skip ?_)
   | (with_reducible refine TC.exit ?_)
   | (with_reducible refine TX.hit ?_)
   | (with_reducible refine TX.thenX ?_)
   | (with_reducible refine TC.ifD ?_ ?_ <;> (intro hc; try (exfalso; omega)))
   | (with_reducible refine TC.ret ?_)
   | fail)
  · refine OL.cf l[k] (List.getElem_mem _) ?_
    repeat' (first | (with_reducible refine OL.nil ?_) | (with_reducible refine TX.thenN ?_) | fail)
    refine TC.ifB (fun hp => ?_) (fun hp => ?_)
    · repeat' (first
       | (with_reducible refine OL.st ?_)
       | (with_reducible refine OL.lit ?_)
       | (with_reducible refine OL.appO ?_)
       | (with_reducible refine TC.region ?_)
       | (with_reducible refine OL.nil ?_)
       | (with_reducible refine TX.thenN ?_)
       | (with_reducible refine TX.blkN ?_)
       | fail)
      have e : ((l.take k).filter p).map V.int ++ [V.int l[k]] = ((l.take (k + 1)).filter p).map V.int := by rw [filter_take_t (by omega) hp]; simp
      exact TX.rd (k + 1) [2] (by omega) (by omega)
    · repeat' (first
       | (with_reducible refine OL.st ?_)
       | (with_reducible refine TC.region ?_)
       | (with_reducible refine OL.nil ?_)
       | (with_reducible refine TX.thenN ?_)
       | (with_reducible refine TC.skip ?_)
       | (with_reducible refine TX.blkN ?_)
       | fail)
      have e : ((l.take k).filter p).map V.int = ((l.take (k + 1)).filter p).map V.int := by rw [filter_take_f (by omega) hp]
      exact TX.rd (k + 1) [0] (by omega) (by omega)
  · rw [take_all (by omega)]
    exact TX.rt1 [0] (.ren rfl)
end Go.Proofs
/- line's sets, bare, of, fine. -/
namespace Go.Proofs
open Go Go.W Go.V
theorem s_line_bare_1 (c : Int) : V.Spec Try.prog Fc.line_bare_1 [V.int c] [] (V.bool (c != 0)) [] := by
  refine V.Spec.enter Try.tabOK Try.mixed Fn.line_bare_1 rfl rfl rfl fun B hB => ?_
  repeat' (first
   | (with_reducible refine OL.st ?_)
   | (with_reducible refine TC.region ?_)
   | (with_reducible refine TC.seq ?_)
   | (with_reducible refine OL.nil ?_)
   | (with_reducible refine TX.thenN ?_)
   | (with_reducible refine TC.ret ?_)
   | fail)
  refine TX.rt1 [] (.bool ?_)
  by_cases h : c = 0 <;> simp [h]
theorem s_line_bare (l : List Int) (hb : l.length ≤ 1000000000) : V.Spec Try.prog Fc.line_bare [ints l] [] (.hs 0) [.gs false Tc.int 1 none ((bare l).map V.int)] := by
  refine V.Spec.enter Try.tabOK Try.mixed Fn.line_bare rfl rfl rfl fun B hB => ?_
  repeat' (first
   | (with_reducible refine OL.st ?_)
   | (with_reducible refine TC.region ?_)
   | (with_reducible refine TC.seq ?_)
   | (with_reducible refine OL.nil ?_)
   | (with_reducible refine TX.thenN ?_)
   | fail)
  refine OL.c (s_line_keep_int l (fun c => c != 0) hb) Fn.line_keep_int ?_ (hle := by exact ⟨.ren rfl, .fun0 Fn.line_bare_1 (fun c _ => s_line_bare_1 c), trivial⟩)
  repeat' (first
   | (with_reducible refine OL.st ?_)
   | (with_reducible refine OL.nil ?_)
   | (with_reducible refine TX.thenN ?_)
   | (with_reducible refine TC.ret ?_)
   | fail)
  exact TX.rt1 [0] (.ren rfl)
abbrev setA (x : Nat) : AV := .st [V.u64 x]
def setWith (x : Nat) (c : Nat) : Nat := x ||| 1 <<< c
theorem s_line_set_has (x : Nat) (hx : x < 2 ^ 64) (c : Int) : V.Spec Try.prog Fc.line_set_has [setA x, V.int c] [] (V.bool (decide (0 ≤ c) && decide (c < 64) && x.testBit c.toNat)) [] := by
  refine V.Spec.enter Try.tabOK Try.mixed Fn.line_set_has rfl rfl rfl fun B hB => ?_
  repeat' (first
   | (with_reducible refine OL.st ?_)
   | (with_reducible refine OL.box ?_)
   | (with_reducible refine TC.region ?_)
   | (with_reducible refine TC.seq ?_)
   | (with_reducible refine OL.nil ?_)
   | (with_reducible refine TX.thenN ?_)
   | (with_reducible refine OL.gOn ?_)
   | (with_reducible refine OL.gOff ?_)
   | (with_reducible refine OL.gD ?_ ?_ <;> (intro hc; try (exfalso; omega)))
   | (with_reducible refine TC.ret ?_)
   | fail)
  all_goals refine TX.rt1 [] (.bool ?_)
  · have e1 : decide (0 ≤ c) = true := by simp; omega
    have e2 : decide (c < 64) = true := by simp; omega
    rw [e1, e2, shr_and_one]
    cases hb' : x.testBit c.toNat <;> simp
  · have : decide (c < 64) = false := by simp; omega
    simp [this]
  · have : decide (0 ≤ c) = false := by simp; omega
    simp [this]
theorem s_line_set_with (x : Nat) (hx : x < 2 ^ 64) (c : Int) (h0 : 0 ≤ c) (h1 : c < 64) : V.Spec Try.prog Fc.line_set_with [setA x, V.int c] [] (setA (setWith x c.toNat)) [] := by
  refine V.Spec.enter Try.tabOK Try.mixed Fn.line_set_with rfl rfl rfl fun B hB => ?_
  repeat' (first
   | (with_reducible refine OL.box ?_)
   | (with_reducible refine OL.alloc ?_)
   | (with_reducible refine TC.region ?_)
   | (with_reducible refine TC.seq ?_)
   | (with_reducible refine OL.nil ?_)
   | (with_reducible refine TX.thenN ?_)
   | fail)
  (with_reducible refine TC.draw (id := 1) true 6 7 ?_) <;> (with_reducible refine OD.st 0 ?_) <;> (with_reducible refine OD.st 1 ?_) <;> (with_reducible refine OD.st 2 ?_) <;> (with_reducible refine OD.st 3 ?_) <;> (with_reducible refine OD.st 4 ?_) <;> (with_reducible refine OD.st 5 ?_) <;> (with_reducible refine OD.a1 6 ?_; with_reducible refine OL.store ?_; with_reducible refine OL.nil ?_; with_reducible refine TX.od ?_) <;> (with_reducible refine OD.dn ?_)
  repeat' (first
   | (with_reducible refine OL.st ?_)
   | (with_reducible refine OL.storeAgg ?_)
   | (with_reducible refine TC.region ?_)
   | (with_reducible refine TC.seq ?_)
   | (with_reducible refine OL.nil ?_)
   | (with_reducible refine TX.thenN ?_)
   | (with_reducible refine TC.ret ?_)
   | fail)
  exact TX.rtc [] (.ren rfl)
theorem s_line_set_or (x y : Nat) (hx : x < 2 ^ 64) (hy : y < 2 ^ 64) : V.Spec Try.prog Fc.line_set_or [setA x, setA y] [] (setA (x ||| y)) [] := by
  refine V.Spec.enter Try.tabOK Try.mixed Fn.line_set_or rfl rfl rfl fun B hB => ?_
  repeat' (first
   | (with_reducible refine OL.st ?_)
   | (with_reducible refine OL.box ?_)
   | (with_reducible refine OL.alloc ?_)
   | (with_reducible refine OL.store ?_)
   | (with_reducible refine OL.storeAgg ?_)
   | (with_reducible refine TC.region ?_)
   | (with_reducible refine TC.seq ?_)
   | (with_reducible refine OL.nil ?_)
   | (with_reducible refine TX.thenN ?_)
   | (with_reducible refine TC.ret ?_)
   | fail)
  exact TX.rtc [] (.ren rfl)
theorem s_line_set_and (x y : Nat) (hx : x < 2 ^ 64) (hy : y < 2 ^ 64) : V.Spec Try.prog Fc.line_set_and [setA x, setA y] [] (setA (x &&& y)) [] := by
  refine V.Spec.enter Try.tabOK Try.mixed Fn.line_set_and rfl rfl rfl fun B hB => ?_
  repeat' (first
   | (with_reducible refine OL.st ?_)
   | (with_reducible refine OL.box ?_)
   | (with_reducible refine OL.alloc ?_)
   | (with_reducible refine OL.store ?_)
   | (with_reducible refine OL.storeAgg ?_)
   | (with_reducible refine TC.region ?_)
   | (with_reducible refine TC.seq ?_)
   | (with_reducible refine OL.nil ?_)
   | (with_reducible refine TX.thenN ?_)
   | (with_reducible refine TC.ret ?_)
   | fail)
  exact TX.rtc [] (.ren rfl)
theorem setWith_lt {x c : Nat} (hx : x < 2 ^ 64) (hc : c < 64) : setWith x c < 2 ^ 64 := Nat.or_lt_two_pow hx (by rw [Nat.one_shiftLeft]; exact Nat.pow_lt_pow_right (by omega) hc)
def ofL (l : List Int) : Nat := l.foldl (fun s c => setWith s c.toNat) 0
theorem ofL_snoc (l : List Int) (c : Int) : ofL (l ++ [c]) = setWith (ofL l) c.toNat := by simp [ofL]
theorem ofL_lt (l : List Int) (hr : ∀ c ∈ l, 0 ≤ c ∧ c < 64) : ofL l < 2 ^ 64 := by
  have key : ∀ (l : List Int) (s : Nat), s < 2 ^ 64 → (∀ c ∈ l, 0 ≤ c ∧ c < 64) → l.foldl (fun s c => setWith s c.toNat) s < 2 ^ 64 := by
    intro l
    induction l with
    | nil => intro s hs _; exact hs
    | cons c r ih =>
      intro s hs hr
      have := hr c (by simp)
      exact ih _ (setWith_lt hs (by omega)) (fun c hc => hr c (by simp [hc]))
  exact key l 0 (by decide) hr
theorem s_line_of (l : List Int) (hr : ∀ c ∈ l, 0 ≤ c ∧ c < 64) : V.Spec Try.prog Fc.line_of [ints l] [] (setA (ofL l)) [] := by
  refine V.Spec.enter Try.tabOK Try.mixed Fn.line_of rfl rfl rfl fun B hB => ?_
  refine TC.bl 0 fun hl => ?_
  repeat' (first
   | (with_reducible refine OL.st ?_)
   | (with_reducible refine OL.alloc ?_)
   | (with_reducible refine TC.region ?_)
   | (with_reducible refine TC.seq ?_)
   | (with_reducible refine OL.nil ?_)
   | (with_reducible refine TX.thenN ?_)
   | (with_reducible refine TC.block ?_)
   | fail)
  refine TC.lp (fun k : Nat => [(2, .bp 0 0), (3, .bp 1 0), (6, ints l), (7, V.int l.length), (8, V.int k)]) (fun k => [.cb Tc.line_set [V.u64 0], .cb Tc.line_set [V.u64 (ofL (l.take k))]]) (fun k => k ≤ l.length) (fun k => l.length - k) 0 [0, 1] (Nat.zero_le _) ?_
  rintro k hk
  have hlt := ofL_lt (l.take k) (fun c hc => hr c (List.mem_of_mem_take hc))
  repeat' (first
   | (with_reducible refine OL.st ?_)
   | (with_reducible refine OL.storeAgg ?_)
   | (with_reducible refine TC.region ?_)
   | (with_reducible refine TC.seq ?_)
   | (with_reducible refine OL.nil ?_)
   | (with_reducible refine TX.thenN ?_)
   | (with_reducible refine TC.block ?_)
   | (with_reducible refine TC.skip ?_)
   | (with_reducible refine TC.exit ?_)
   | (with_reducible refine TX.hit ?_)
   | (with_reducible refine TX.thenX ?_)
   | (with_reducible refine TC.ifD ?_ ?_ <;> (intro hc; try (exfalso; omega)))
   | (with_reducible refine TC.ret ?_)
   | fail)
  · have hc64 := hr l[k] (List.getElem_mem _)
    refine OL.c (s_line_set_with _ hlt l[k] hc64.1 hc64.2) Fn.line_set_with ?_
    repeat' (first
     | (with_reducible refine OL.st ?_)
     | (with_reducible refine OL.storeAgg ?_)
     | (with_reducible refine TC.region ?_)
     | (with_reducible refine OL.nil ?_)
     | (with_reducible refine TX.thenN ?_)
     | (with_reducible refine TX.blkN ?_)
     | fail)
    rw [← ofL_snoc, ← take_succ (by omega)]
    exact TX.rd (k + 1) [0, 1] (by omega) (by omega)
  · rw [take_all (by omega)]
    exact TX.rtc [] (.ren rfl)
end Go.Proofs
/- line's fine and merge. -/
namespace Go.Proofs
open Go Go.W Go.V
set_option maxHeartbeats 1000000 in
theorem s_line_fine (g : List (List Int)) : V.Spec Try.prog Fc.line_fine [rows g] [] (V.bool (fine g)) [] := by
  refine V.Spec.enter Try.tabOK Try.mixed Fn.line_fine rfl rfl rfl fun B hB => ?_
  refine TC.bl 0 fun hlen => ?_
  repeat' (first
   | (with_reducible refine OL.st ?_)
   | (with_reducible refine TC.region ?_)
   | (with_reducible refine TC.seq ?_)
   | (with_reducible refine OL.nil ?_)
   | (with_reducible refine TX.thenN ?_)
   | (with_reducible refine TC.block ?_)
   | (with_reducible refine TC.skip ?_)
   | (with_reducible refine TC.ifD ?_ ?_ <;> (intro hc; try (exfalso; omega)))
   | (with_reducible refine TC.ret ?_)
   | (with_reducible refine TX.thenR ?_)
   | fail)
  · refine TX.rt1 [] (.bool ?_)
    have : decide (g.length ≤ 16) = false := by simp; omega
    simp [fine, this]
  have hfine : fine g = okRows 0 g := by
    have : decide (g.length ≤ 16) = true := by simp; omega
    simp [fine, this]
  have h16 : g.length ≤ 16 := by omega
  refine TC.lp (fun i : Nat => [(10, rows g), (11, V.int g.length), (12, V.int i)]) (fun _ => []) (fun i => i ≤ g.length ∧ okRows 0 g = okRows i (g.drop i)) (fun i => g.length - i) 0 [] ⟨Nat.zero_le _, rfl⟩ ?_
  rintro i ⟨hi, hinv⟩
  repeat' (first
   | (with_reducible refine OL.st ?_)
   | (with_reducible refine TC.region ?_)
   | (with_reducible refine TC.seq ?_)
   | (with_reducible refine OL.nil ?_)
   | (with_reducible refine TX.thenN ?_)
   | (with_reducible refine TC.block ?_)
   | (with_reducible refine TC.skip ?_)
   | (with_reducible refine TC.exit ?_)
   | (with_reducible refine TX.hit ?_)
   | (with_reducible refine TX.thenX ?_)
   | (with_reducible refine TC.ifD ?_ ?_ <;> (intro hc; try (exfalso; omega)))
   | (with_reducible refine TC.ret ?_)
   | (with_reducible refine TX.thenR ?_)
   | (with_reducible refine TX.blkR ?_)
   | fail)
  · refine TX.rt1 [] (.bool ?_)
    rw [hfine, hinv, drop_cons (by omega)]
    have : decide (g[i].length ≤ 3) = false := by simp; omega
    simp [okRows, this]
  · have hr3 : g[i].length ≤ 3 := by omega
    have hst : okRows i (g.drop i) = (okRow i [] g[i] && okRows (i + 1) (g.drop (i + 1))) := by
      rw [drop_cons (by omega)]
      have : decide (g[i].length ≤ 3) = true := by simp; omega
      simp [okRows, this]
    generalize g[i] = r at *
    refine TC.lp (fun k : Nat => [(3, V.int i), (4, ints r), (20, ints r), (21, V.int r.length), (22, V.int k), (10, rows g), (11, V.int g.length), (12, V.int i)]) (fun _ => []) (fun k => k ≤ r.length ∧ okRow i [] r = okRow i (r.take k) (r.drop k)) (fun k => r.length - k) 0 [] ⟨Nat.zero_le _, rfl⟩ ?_
    rintro k ⟨hk, hki⟩
    have hfail : okRow i (r.take k) (r.drop k) = false → fine g = false := fun hb => by rw [hfine, hinv, hst, hki.trans hb]; rfl
    repeat' (first
     | (with_reducible refine OL.st ?_)
     | (with_reducible refine TC.region ?_)
     | (with_reducible refine TC.seq ?_)
     | (with_reducible refine OL.nil ?_)
     | (with_reducible refine TX.thenN ?_)
     | (with_reducible refine TC.block ?_)
     | (with_reducible refine TC.skip ?_)
     | (with_reducible refine TX.blkN ?_)
     | (with_reducible refine TC.exit ?_)
     | (with_reducible refine TX.hit ?_)
     | (with_reducible refine TX.thenX ?_)
     | (with_reducible refine TC.ifT ?_)
     | (with_reducible refine OL.gOn ?_)
     | (with_reducible refine OL.gOff ?_)
     | (with_reducible refine TC.ifD ?_ ?_ <;> (intro hc; try (exfalso; omega)))
     | (with_reducible refine OL.gD ?_ ?_ <;> (intro hc; try (exfalso; omega)))
     | (with_reducible refine TC.ret ?_)
     | (with_reducible refine TX.thenR ?_)
     | (with_reducible refine TX.blkR ?_)
     | fail)
    · refine TX.rt1 [] (.bool ?_)
      rw [hfail]
      rw [drop_cons (by omega)]
      have : decide (3 ≤ r[k]) = false := by simp; omega
      simp [okRow, this]
    · refine TX.rt1 [] (.bool ?_)
      rw [hfail]
      rw [drop_cons (by omega)]
      have : decide (r[k] < 3 + (i : Int)) = false := by simp; omega
      simp [okRow, this]
    · refine OL.c (s_slices_Contains_Lint_int (r.take k) r[k]) Fn.slices_Contains_Lint_int ?_
      have e1 : decide (3 ≤ r[k]) = true := by simp; omega
      have e2 : decide (r[k] < 3 + (i : Int)) = true := by simp; omega
      repeat' (first
       | (with_reducible refine OL.st ?_)
       | (with_reducible refine OL.nil ?_)
       | (with_reducible refine TX.thenN ?_)
       | fail)
      refine TC.ifB (fun hct => ?_) (fun hct => ?_)
      · repeat' (first
         | (with_reducible refine OL.st ?_)
         | (with_reducible refine TC.region ?_)
         | (with_reducible refine TC.seq ?_)
         | (with_reducible refine OL.nil ?_)
         | (with_reducible refine TX.thenN ?_)
         | (with_reducible refine TC.ret ?_)
         | (with_reducible refine TX.thenR ?_)
         | (with_reducible refine TX.blkR ?_)
         | fail)
        refine TX.rt1 [] (.bool ?_)
        rw [hfail]
        rw [drop_cons (by omega), okRow, hct]
        simp
      · repeat' (first
         | (with_reducible refine OL.st ?_)
         | (with_reducible refine TC.region ?_)
         | (with_reducible refine OL.nil ?_)
         | (with_reducible refine TX.thenN ?_)
         | (with_reducible refine TC.skip ?_)
         | (with_reducible refine TX.blkN ?_)
         | fail)
        refine TX.rd (k + 1) [] ⟨by omega, ?_⟩ (by omega)
        rw [hki, drop_cons (by omega), take_succ (by omega)]
        rw [okRow, e1, e2, hct]
        rfl
    · refine TX.rd (i + 1) [] ⟨by omega, ?_⟩ (by omega)
      rw [hinv, hst, hki, drop_nil (by omega)]
      rfl
  · refine TX.rt1 [] (.bool ?_)
    rw [hfine, hinv, drop_nil (by omega)]
    rfl
theorem s_line_merge_1 (c h : Int) : V.Spec Try.prog Fc.line_merge_1 [V.int c, .ep [V.int h] 0] [] (V.bool (c != h)) [] := by
  refine V.Spec.enter Try.tabOK Try.mixed Fn.line_merge_1 rfl rfl rfl fun B hB => ?_
  repeat' (first
   | (with_reducible refine OL.st ?_)
   | (with_reducible refine TC.region ?_)
   | (with_reducible refine TC.seq ?_)
   | (with_reducible refine OL.nil ?_)
   | (with_reducible refine TX.thenN ?_)
   | (with_reducible refine TC.ret ?_)
   | fail)
  refine TX.rt1 [] (.bool ?_)
  by_cases e : c = h <;> simp [e]
theorem free_step {all : List (List Int)} {k : Nat} {h : Int} (hk : k < all.length) : free (all.take (k + 1)) h = (free (all.take k) h && !(all[k].drop 1).contains h) := by
  rw [take_succ hk]; simp only [free, List.all_append, List.all_cons, List.all_nil, Bool.and_true]
theorem free_out {all : List (List Int)} {k : Nat} {h : Int} (hk : k < all.length) (hc : (all[k].drop 1).contains h = true) : free all h = false := by
  simp only [free, List.all_eq_false]
  exact ⟨all[k], List.getElem_mem hk, by simp only [hc]; simp⟩
set_option maxHeartbeats 2000000 in
theorem s_line_merge (all0 : List (List Int)) (hb : total all0 ≤ 1000000) (hb2 : all0.length ≤ 1000000) :
    V.Spec Try.prog Fc.line_merge [rows all0] [] (.tp [.hs 0, V.bool (merge all0).2]) [.gs false Tc.int 1 none ((merge all0).1.map V.int)] := by
  refine V.Spec.enter Try.tabOK Try.mixed Fn.line_merge rfl rfl rfl fun B hB => ?_
  repeat' (first
   | (with_reducible refine OL.st ?_)
   | (with_reducible refine TC.region ?_)
   | (with_reducible refine TC.seq ?_)
   | (with_reducible refine OL.nil ?_)
   | (with_reducible refine TX.thenN ?_)
   | (with_reducible refine TC.block ?_)
   | (with_reducible refine TC.scope ?_)
   | (with_reducible refine TC.label ?_)
   | fail)
  refine TC.adp 4 Tc.int 1 ?_
  refine TC.lp (fun s : List (List Int) × List Int => [(0, rows s.1), (4, .hs 0)]) (fun s => [.gs false Tc.int 1 none (s.2.map V.int)]) (fun s => mergeF (total all0) all0 [] = mergeF (total s.1) s.1 s.2 ∧ s.1.length = all0.length ∧ s.2.length + total s.1 ≤ total all0) (fun s => total s.1) (all0, []) [0] ⟨rfl, rfl, by simp⟩ ?_
  rintro ⟨all, out⟩ ⟨hinv, hlen, htot⟩
  simp only at hinv hlen htot ⊢
  repeat' (first
   | (with_reducible refine OL.st ?_)
   | (with_reducible refine TC.region ?_)
   | (with_reducible refine TC.seq ?_)
   | (with_reducible refine OL.nil ?_)
   | (with_reducible refine TX.thenN ?_)
   | (with_reducible refine TC.block ?_)
   | (with_reducible refine TC.scope ?_)
   | (with_reducible refine TC.label ?_)
   | fail)
  -- the next element
  refine TC.lp (fun i : Nat => [(0, rows all), (4, .hs 0), (5, V.bool (anyNE (all.take i))), (14, rows all), (15, V.int all.length), (16, V.int i)]) (fun _ => [.gs false Tc.int 1 none (out.map V.int)])
    (fun i => i ≤ all.length ∧ nextOf all all = nextOf all (all.drop i)) (fun i => all.length - i) 0 [0] ⟨Nat.zero_le _, rfl⟩ ?_
  rintro i ⟨hi, hn⟩
  repeat' (first
   | (with_reducible refine OL.st ?_)
   | (with_reducible refine TC.region ?_)
   | (with_reducible refine TC.seq ?_)
   | (with_reducible refine OL.nil ?_)
   | (with_reducible refine TX.thenN ?_)
   | (with_reducible refine TC.block ?_)
   | (with_reducible refine TC.skip ?_)
   | (with_reducible refine TC.exit ?_)
   | (with_reducible refine TX.hit ?_)
   | (with_reducible refine TX.thenX ?_)
   | (with_reducible refine TC.ifD ?_ ?_ <;> (intro hc; try (exfalso; omega)))
   | (with_reducible refine TC.ret ?_)
   | (with_reducible refine TX.thenR ?_)
   | (with_reducible refine TX.blkR ?_)
   | (with_reducible refine TX.ngR ?_)
   | fail)
  · have he : all[i] = [] := List.eq_nil_of_length_eq_zero (by omega)
    have e5 : anyNE (all.take (i + 1)) = anyNE (all.take i) := by rw [take_succ (by omega), anyNE_snoc, he]; simp
    exact TX.rd (i + 1) [0] ⟨by omega, by rw [hn, drop_cons (by omega), he, nextOf_nil]⟩ (by omega)
  · have h0 : 0 < all[i].length := by omega
    have hne : all[i] ≠ [] := fun e => by rw [e] at h0; simp at h0
    have hne' : all[i].isEmpty = false := by simpa using hne
    have e5 : true = anyNE (all.take (i + 1)) := by rw [take_succ (by omega), anyNE_snoc, hne']; simp
    refine TC.lp (fun k : Nat => [(0, rows all), (4, .hs 0), (5, V.bool true), (7, ints all[i]), (14, rows all), (15, V.int all.length), (16, V.int i), (23, rows all), (24, V.int all.length), (25, V.int k)]) (fun _ => [.gs false Tc.int 1 none (out.map V.int)])
      (fun k => k ≤ all.length ∧ free (all.take k) all[i][0] = true) (fun k => all.length - k) 0 [0] ⟨Nat.zero_le _, rfl⟩ ?_
    rintro k ⟨hk, hfr⟩
    repeat' (first
     | (with_reducible refine OL.st ?_)
     | (with_reducible refine OL.alloc ?_)
     | (with_reducible refine OL.store ?_)
     | (with_reducible refine OL.lit ?_)
     | (with_reducible refine OL.appO ?_)
     | (with_reducible refine TC.region ?_)
     | (with_reducible refine TC.seq ?_)
     | (with_reducible refine OL.nil ?_)
     | (with_reducible refine TX.thenN ?_)
     | (with_reducible refine TC.block ?_)
     | (with_reducible refine TC.skip ?_)
     | (with_reducible refine TC.exit ?_)
     | (with_reducible refine TX.hit ?_)
     | (with_reducible refine TX.thenX ?_)
     | (with_reducible refine TC.ifD ?_ ?_ <;> (intro hc; try (exfalso; omega)))
     | fail)
    · have hkl : k < all.length := by omega
      (with_reducible refine TC.draw (id := 11) true 11 11 ?_) <;> (with_reducible refine OD.st 0 ?_) <;> (with_reducible refine OD.st 1 ?_) <;> (with_reducible refine OD.st 2 ?_) <;> (with_reducible refine OD.st 3 ?_) <;> (with_reducible refine OD.sD 32 ?_ ?_ <;> (intro hc; try (exfalso; omega)) <;> (first | (with_reducible refine OD.st 4 ?_) | (with_reducible refine OD.of 4 ?_))) <;> (first | (with_reducible refine OD.st 5 ?_) | (with_reducible refine OD.of 5 ?_)) <;> (first | (with_reducible refine OD.st 6 ?_) | (with_reducible refine OD.of 6 ?_)) <;> (first | (with_reducible refine OD.st 7 ?_) | (with_reducible refine OD.of 7 ?_)) <;> (first | (with_reducible refine OD.st 8 ?_) | (with_reducible refine OD.of 8 ?_)) <;> (first | (with_reducible refine OD.c1 9 (s_slices_Contains_Lint_int (all[k].drop 1) all[i][0]) Fn.slices_Contains_Lint_int ?_) | (with_reducible refine OD.of 9 ?_)) <;> (with_reducible refine OD.st 10 ?_) <;> (with_reducible refine OD.dn ?_)
      · repeat' (first | (with_reducible refine TX.thenN ?_) | fail)
        refine TC.ifB (fun hct => ?_) (fun hct => ?_)
        · repeat' (first
           | (with_reducible refine OL.st ?_)
           | (with_reducible refine TC.region ?_)
           | (with_reducible refine OL.nil ?_)
           | (with_reducible refine TX.thenN ?_)
           | (with_reducible refine TC.exit ?_)
           | (with_reducible refine TX.hit ?_)
           | (with_reducible refine TX.thenX ?_)
           | (with_reducible refine TX.miss ?_ rfl)
           | fail)
          exact TX.rd (i + 1) [0] ⟨by omega, by rw [hn, drop_cons (by omega), nextOf_get_f h0 (free_out hkl hct)]⟩ (by omega)
        · repeat' (first
           | (with_reducible refine OL.st ?_)
           | (with_reducible refine TC.region ?_)
           | (with_reducible refine OL.nil ?_)
           | (with_reducible refine TX.thenN ?_)
           | (with_reducible refine TC.skip ?_)
           | (with_reducible refine TX.blkN ?_)
           | fail)
          exact TX.rd (k + 1) [0] ⟨by omega, by rw [free_step hkl, hfr, hct]; rfl⟩ (by omega)
      · repeat' (first
         | (with_reducible refine OL.st ?_)
         | (with_reducible refine TC.region ?_)
         | (with_reducible refine OL.nil ?_)
         | (with_reducible refine TX.thenN ?_)
         | (with_reducible refine TC.skip ?_)
         | (with_reducible refine TX.blkN ?_)
         | (with_reducible refine TC.ifF ?_)
         | fail)
        refine TX.rd (k + 1) [0] ⟨by omega, ?_⟩ (by omega)
        have he : all[k] = [] := List.eq_nil_of_length_eq_zero (by omega)
        rw [free_step hkl, hfr, he]; rfl
    · rw [take_all (by omega)] at hfr
      have hnx : nextOf all all = some all[i][0] := by rw [hn, drop_cons (by omega), nextOf_get_t h0 hfr]
      have hmn := merge_next (out := out) hnx
      obtain ⟨t, hmem, _⟩ := nextOf_mem all all _ hnx
      have htl := total_without_lt all _ t hmem
      have hin : all[i][0] ∈ (all[i][0] :: t) := by simp
      have hol : out.length ≤ 1000000 := by omega
      refine TC.adp 11 Tc.Lint 1 ?_
      refine TC.frzB 10 ?_
      refine TC.lp (fun j : Nat => [(4, .hs 0), (10, .ep [V.int all[i][0]] 0), (11, .hs 1), (48, rows all), (49, V.int all.length), (50, V.int j)]) (fun j => [.gs false Tc.int 1 none ((out ++ [all[i][0]]).map V.int), .gs false Tc.Lint 1 none (((all.take j).map (without · all[i][0])).map ints)]) (fun j => j ≤ all.length) (fun j => all.length - j) 0 [3, 4] (Nat.zero_le _) ?_
      rintro j hj
      have hlj : ∀ hl : j < all.length, all[j].length ≤ 1000000 := fun hl => Nat.le_trans (total_le (List.getElem_mem hl)) (by omega)
      repeat' (first
       | (with_reducible refine OL.st ?_)
       | (with_reducible refine TC.region ?_)
       | (with_reducible refine TC.seq ?_)
       | (with_reducible refine OL.nil ?_)
       | (with_reducible refine TX.thenN ?_)
       | (with_reducible refine TC.block ?_)
       | (with_reducible refine TC.skip ?_)
       | (with_reducible refine TC.exit ?_)
       | (with_reducible refine TX.hit ?_)
       | (with_reducible refine TX.thenX ?_)
       | (with_reducible refine TX.miss ?_ rfl)
       | (with_reducible refine TC.ifD ?_ ?_ <;> (intro hc; try (exfalso; omega)))
       | (with_reducible refine TX.ngX ?_)
       | fail)
      · refine OL.c (s_line_keep_int all[j] (fun c => c != all[i][0]) (by have := hlj (by omega); omega)) Fn.line_keep_int ?_ (hle := by exact ⟨.ren rfl, .fun_ (first' := []) (caps' := [.ep [V.int all[i][0]] 0]) Fn.line_merge_1 rfl trivial ⟨.ren rfl, trivial⟩ (fun c _ => s_line_merge_1 c all[i][0]), trivial⟩)
        repeat' (first
         | (with_reducible refine OL.st ?_)
         | (with_reducible refine OL.litV ?_)
         | (with_reducible refine OL.lit ?_)
         | (with_reducible refine OL.appO ?_)
         | (with_reducible refine TC.region ?_)
         | (with_reducible refine OL.nil ?_)
         | (with_reducible refine TX.thenN ?_)
         | (with_reducible refine TX.blkN ?_)
         | fail)
        exact TX.rd (j + 1) [0, 4] (by omega) (by omega)
      · rw [take_all (by omega)]
        refine TX.vw 0 ?_
        refine TX.rd (all.map (without · all[i][0]), out ++ [all[i][0]]) [0] ⟨hinv.trans hmn, by simpa using hlen, ?_⟩ htl
        simp only [List.length_append, List.length_singleton]
        omega
  · have hn0 : nextOf all all = none := by rw [hn, drop_nil (by omega)]; rfl
    have hmn := merge_none (out := out) hn0
    rw [take_all (by omega)]
    rw [merge, hinv, hmn]
    exact TX.rt2 [0] (.ren rfl) (.ren rfl)
end Go.Proofs
/- The reference's small functions. -/
namespace Go.Proofs
open Go Go.W Go.V
theorem s_ref03_Same (la lb : List Int) : V.Spec Try.prog Fc.ref03_Same [ints la, ints lb] [] (V.bool (la == lb)) [] := by
  refine V.Spec.enter Try.tabOK Try.mixed Fn.ref03_Same rfl rfl rfl fun B hB => ?_
  refine TC.bl 0 fun hla => TC.bl 1 fun hlb => ?_
  repeat' (first
   | (with_reducible refine OL.st ?_)
   | (with_reducible refine TC.region ?_)
   | (with_reducible refine TC.seq ?_)
   | (with_reducible refine OL.nil ?_)
   | (with_reducible refine TX.thenN ?_)
   | (with_reducible refine TC.block ?_)
   | (with_reducible refine TC.skip ?_)
   | (with_reducible refine TC.ifD ?_ ?_ <;> (intro hc; try (exfalso; omega)))
   | (with_reducible refine TC.ret ?_)
   | (with_reducible refine TX.thenR ?_)
   | fail)
  · refine TX.rt1 [] (.bool ?_)
    have : la ≠ lb := fun e => by subst e; simp at hc
    simp [this]
  refine TC.lp (fun k : Nat => [(0, ints la), (1, ints lb), (5, V.int k)]) (fun _ => []) (fun k => k ≤ la.length ∧ la.take k = lb.take k) (fun k => la.length - k) 0 [] ⟨Nat.zero_le _, by simp⟩ ?_
  rintro k ⟨hk, hpre⟩
  have hleq : la.length = lb.length := by omega
  repeat' (first
   | (with_reducible refine OL.st ?_)
   | (with_reducible refine TC.region ?_)
   | (with_reducible refine TC.seq ?_)
   | (with_reducible refine OL.nil ?_)
   | (with_reducible refine TX.thenN ?_)
   | (with_reducible refine TC.block ?_)
   | (with_reducible refine TC.skip ?_)
   | (with_reducible refine TX.blkN ?_)
   | (with_reducible refine TC.exit ?_)
   | (with_reducible refine TX.hit ?_)
   | (with_reducible refine TX.thenX ?_)
   | (with_reducible refine TC.ifD ?_ ?_ <;> (intro hc; try (exfalso; omega)))
   | (with_reducible refine TC.ret ?_)
   | (with_reducible refine TX.thenR ?_)
   | (with_reducible refine TX.blkR ?_)
   | ((with_reducible refine TC.draw (id := 6) true 9 9 ?_) <;> (with_reducible refine OD.st 0 ?_) <;> (with_reducible refine OD.st 1 ?_) <;> (with_reducible refine OD.st 2 ?_) <;> (with_reducible refine OD.st 3 ?_) <;> (with_reducible refine OD.st 4 ?_) <;> (with_reducible refine OD.st 5 ?_) <;> (with_reducible refine OD.st 6 ?_) <;> (with_reducible refine OD.st 7 ?_) <;> (with_reducible refine OD.st 8 ?_) <;> (with_reducible refine OD.dn ?_))
   | fail)
  · refine TX.rt1 [] (.bool ?_)
    have : la ≠ lb := fun e => by subst e; exact hc rfl
    simp [this]
  · refine TX.rd (k + 1) [] ⟨by omega, ?_⟩ (by omega)
    have hc : la[k] = lb[k] := by simpa using hc
    rw [take_succ (by omega), take_succ (by omega), hpre, hc]
  · refine TX.rt1 [] (.bool ?_)
    have e : la = lb := by
      rw [← take_all (l := la) (k := k) (by omega), ← take_all (l := lb) (k := k) (by omega)]
      exact hpre
    simp [e]
def isClass (g : List (List Int)) (c : Int) : Bool := decide (0 ≤ c) && decide (c < 3 + (g.length : Int))
end Go.Proofs
/- The reference's merge. -/
namespace Go.Proofs
open Go Go.W Go.V
end Go.Proofs
/- The reference's lists, OrdersOf, ListsOf, LinOf, Good, Lin. -/
namespace Go.Proofs
open Go Go.W Go.V
end Go.Proofs
/- The reference's Good, Check, ListsOf, LinOf, Lin. -/
namespace Go.Proofs
open Go Go.W Go.V
def okc (g : List (List Int)) (c : Int) : Bool := fine g && (decide (0 ≤ c) && decide (c < 3 + (g.length : Int)))
def linL (g : List (List Int)) (c : Int) : List Int := if okc g c then at_ (orders g) c else []
def linE (g : List (List Int)) (c : Int) : Int := if okc g c then (if (at_ (orders g) c).length = 0 then 7 else 0) else 2
end Go.Proofs
/- line's graphs: lists, order. -/
namespace Go.Proofs
open Go Go.W Go.V
/-- The orders that are known, as a map. -/
def omapF : Nat → List (List Int) → List (Int × AV)
  | _, [] => []
  | c, o :: r => (if o.isEmpty then [] else [((c : Int), ints o)]) ++ omapF (c + 1) r
def omap (ords : List (List Int)) : List (Int × AV) := omapF 0 ords
theorem omapF_snoc : ∀ (l : List (List Int)) (c : Nat) (o : List Int), omapF c (l ++ [o]) = omapF c l ++ (if o.isEmpty then [] else [(((c + l.length : Nat) : Int), ints o)])
  | [], c, o => by simp [omapF]
  | p :: r, c, o => by
    simp only [List.cons_append, omapF, omapF_snoc r (c + 1) o, List.append_assoc, List.length_cons]
    rw [show c + 1 + r.length = c + (r.length + 1) by omega]
theorem omap_snoc (l : List (List Int)) (o : List Int) : omap (l ++ [o]) = omap l ++ (if o.isEmpty then [] else [((l.length : Int), ints o)]) := by
  rw [omap, omapF_snoc]; simp [omap]
theorem afind_app (k : Int) : ∀ (a b : List (Int × AV)), afind k (a ++ b) = (afind k a).or (afind k b)
  | [], b => by simp [afind]
  | p :: r, b => by
    simp only [List.cons_append, afind]
    cases h : k == p.1
    · simpa using afind_app k r b
    · simp
theorem afind_omapF : ∀ (l : List (List Int)) (c : Nat) (k : Int), (c : Int) ≤ k → afind k (omapF c l) = if (l.getD (k - c).toNat []).isEmpty then none else some (ints (l.getD (k - c).toNat []))
  | [], c, k, _ => by simp [omapF, afind]
  | o :: r, c, k, h => by
    simp only [omapF, afind_app]
    by_cases e : k = c
    · subst e
      simp only [Int.sub_self, Int.toNat_zero, List.getD_cons_zero]
      cases ho : o.isEmpty
      · simp [afind]
      · have hlow : ∀ (r : List (List Int)) (n : Nat) (k : Int), k < n → afind k (omapF n r) = none := by
          intro r
          induction r with
          | nil => intro n k _; rfl
          | cons p r ih =>
            intro n k hk
            simp only [omapF, afind_app, ih (n + 1) k (by omega), Option.or_none]
            split
            · rfl
            · simp only [afind]
              rw [if_neg (by simp; omega)]
        simp [afind, hlow r (c + 1) c (by omega)]
    · have h1 : (c : Int) + 1 ≤ k := by omega
      have := afind_omapF r (c + 1) k (by omega)
      rw [this]
      have e2 : (k - c).toNat = (k - ((c + 1 : Nat) : Int)).toNat + 1 := by omega
      rw [e2, List.getD_cons_succ]
      have e3 : afind k (if o.isEmpty then [] else [((c : Int), ints o)]) = none := by
        split
        · rfl
        · simp only [afind]; rw [if_neg (by simp; omega)]
      rw [e3]; rfl
theorem afind_omap (ords : List (List Int)) (k : Int) (h : 0 ≤ k) : afind k (omap ords) = if (at_ ords k).isEmpty then none else some (ints (at_ ords k)) := by
  have := afind_omapF ords 0 k (by omega)
  simpa [omap, at_] using this
theorem look_omap (ords : List (List Int)) (k : Int) (h : 0 ≤ k) : afind k (omap ords) = some (ints (at_ ords k)) ∨ (afind k (omap ords) = none ∧ ∀ m w γ, Rep m w γ (.slice none 0 0) (ints (at_ ords k))) := by
  rw [afind_omap ords k h]
  cases he : at_ ords k with
  | nil => exact .inr ⟨rfl, fun m w γ => .nil nofun⟩
  | cons a r => exact .inl rfl
theorem new_omap (ords : List (List Int)) (k : Int) (h : (ords.length : Int) ≤ k) : afind k (omap ords) = none := by
  rw [afind_omap ords k (by omega)]
  have : at_ ords k = [] := by unfold at_; rw [List.getD_eq_getElem?_getD, List.getElem?_eq_none (by omega)]; rfl
  rw [this]; rfl
abbrev sets (us : List Nat) : AV := .sl 1 none (us.map setA)
abbrev graphO (pss : List (List Int)) (us : List Nat) (k : Nat) : AO := .cb Tc.line_graph [rows pss, sets us, .mp k]
set_option maxHeartbeats 1000000 in
theorem s_line_graph_lists (pss : List (List Int)) (us : List Nat) (ords : List (List Int)) (c : Nat) (hc : c < pss.length)
    (hps : ∀ p ∈ pss[c], 0 ≤ p) (hol : ∀ o ∈ ords, o.length ≤ 1000000) (hpl : pss[c].length ≤ 1000000) :
    V.Spec Try.prog Fc.line_graph_lists [.bp 0 0, V.int c] [graphO pss us 1, .mo (omap ords)] (.tp [rows ((listsOf ords pss[c]).getD []), V.bool (listsOf ords pss[c]).isSome]) [graphO pss us 1, .mo (omap ords)] := by
  refine V.Spec.enter Try.tabOK Try.mixed Fn.line_graph_lists rfl rfl rfl fun B hB => ?_
  repeat' (first
   | (with_reducible refine OL.st ?_)
   | (with_reducible refine TC.region ?_)
   | (with_reducible refine TC.seq ?_)
   | (with_reducible refine OL.nil ?_)
   | (with_reducible refine TX.thenN ?_)
   | (with_reducible refine TC.block ?_)
   | fail)
  generalize hpe : pss[c] = ps at *
  refine TC.adp 6 Tc.Lint 1 ?_
  refine TC.lp (fun i : Nat => [(0, .bp 0 0), (1, V.int c), (6, .hs 2), (15, ints ps), (16, V.int ps.length), (17, V.int i)]) (fun i => [graphO pss us 1, .mo (omap ords), .gs false Tc.Lint 1 none (((ps.take i).map fun p => bare (at_ ords p)).map ints)]) (fun i => i ≤ ps.length ∧ (ps.take i).all (fun p => !(at_ ords p).isEmpty) = true) (fun i => ps.length - i) 0 [0, 1, 2] ⟨Nat.zero_le _, rfl⟩ ?_
  rintro i ⟨hi, hall⟩
  by_cases hlt : i < ps.length
  · have hpi := hps ps[i] (List.getElem_mem _)
    have hlo : (at_ ords ps[i]).length ≤ 1000000 := by
      rcases at_mem (ords := ords) (p := ps[i]) with e | e
      · rw [e]; simp
      · exact hol _ e
    repeat' (first
     | (with_reducible refine OL.st ?_)
     | (with_reducible refine TC.region ?_)
     | (with_reducible refine TC.seq ?_)
     | (with_reducible refine OL.nil ?_)
     | (with_reducible refine TX.thenN ?_)
     | (with_reducible refine TC.block ?_)
     | (with_reducible refine TC.skip ?_)
     | (with_reducible refine TC.ifD ?_ ?_ <;> (intro hc; try (exfalso; omega)))
     | fail)
    refine OL.lookup ?_ (look_omap ords ps[i] hpi)
    repeat' (first
     | (with_reducible refine OL.st ?_)
     | (with_reducible refine TC.region ?_)
     | (with_reducible refine TC.seq ?_)
     | (with_reducible refine OL.nil ?_)
     | (with_reducible refine TX.thenN ?_)
     | (with_reducible refine TC.skip ?_)
     | (with_reducible refine TC.ifD ?_ ?_ <;> (intro hc; try (exfalso; omega)))
     | (with_reducible refine TC.ret ?_)
     | (with_reducible refine TX.thenR ?_)
     | (with_reducible refine TX.blkR ?_)
     | fail)
    · have he : at_ ords ps[i] = [] := List.eq_nil_of_length_eq_zero (by omega)
      have : listsOf ords ps = none := by
        rw [listsOf, if_neg]
        intro h
        have := List.all_eq_true.1 h ps[i] (List.getElem_mem _)
        rw [he] at this
        cases this
      rw [this]
      exact TX.rt2 [0, 1] (.nil (by decide)) (.ren rfl)
    · have hne : (at_ ords ps[i]).isEmpty = false := by
        cases hq : at_ ords ps[i] with
        | nil => rw [hq] at hc; simp at hc
        | cons _ _ => rfl
      refine OL.lookup ?_ (look_omap ords ps[i] hpi)
      skip
      refine OL.c (s_line_bare (at_ ords ps[i]) (by omega)) Fn.line_bare ?_
      repeat' (first
       | (with_reducible refine OL.st ?_)
       | (with_reducible refine OL.litV ?_)
       | (with_reducible refine OL.lit ?_)
       | (with_reducible refine OL.appO ?_)
       | (with_reducible refine TC.region ?_)
       | (with_reducible refine OL.nil ?_)
       | (with_reducible refine TX.thenN ?_)
       | (with_reducible refine TX.blkN ?_)
       | fail)
      have e : (((ps.take i).map fun p => bare (at_ ords p)).map ints) ++ [ints (bare (at_ ords ps[i]))] = (((ps.take (i + 1)).map fun p => bare (at_ ords p)).map ints) := by
        rw [take_succ hlt]; simp only [List.map_append, List.map_cons, List.map_nil]
      refine TX.rd (i + 1) [0, 1, 5] ⟨by omega, ?_⟩ (by omega)
      rw [take_succ hlt, List.all_append, hall]
      simp [hne]
  · repeat' (first
     | (with_reducible refine OL.st ?_)
     | (with_reducible refine OL.lit ?_)
     | (with_reducible refine OL.appO ?_)
     | (with_reducible refine TC.region ?_)
     | (with_reducible refine TC.seq ?_)
     | (with_reducible refine OL.nil ?_)
     | (with_reducible refine TX.thenN ?_)
     | (with_reducible refine TC.exit ?_)
     | (with_reducible refine TX.hit ?_)
     | (with_reducible refine TX.thenX ?_)
     | (with_reducible refine TC.ifD ?_ ?_ <;> (intro hc; try (exfalso; omega)))
     | (with_reducible refine TC.ret ?_)
     | fail)
    rw [take_all (by omega)] at hall ⊢
    rw [listsOf, if_pos hall]
    have e : (ps.map fun p => bare (at_ ords p)).map ints ++ [ints pss[c]] = ((ps.map fun p => bare (at_ ords p)) ++ [ps]).map ints := by rw [List.map_append, hpe]; rfl
    refine TX.vw 4 ?_
    exact TX.rt2 [0, 1] (.sl' e) (.ren rfl)
end Go.Proofs
/- line's order. -/
namespace Go.Proofs
open Go Go.W Go.V
/-- The order of a class, by those of the classes below its number. -/
def ordOf (ords : List (List Int)) (ps : List Int) (c : Nat) : List Int := if c = 0 then [0] else orderOf ords ps c
set_option maxHeartbeats 1000000 in
theorem s_line_graph_order (pss : List (List Int)) (us : List Nat) (ords : List (List Int)) (c : Nat) (hcl : c < pss.length) (hoc : ords.length = c) (hcs : c ≤ 100)
    (hps : ∀ p ∈ pss[c], 0 ≤ p) (hok : OrdOK ords) (hpl : pss[c].length ≤ 3) :
    V.Spec Try.prog Fc.line_graph_order [.bp 0 0, V.int c] [graphO pss us 1, .mo (omap ords)] (.tp []) [graphO pss us 1, .mo (omap (ords ++ [ordOf ords pss[c] c]))] := by
  refine V.Spec.enter Try.tabOK Try.mixed Fn.line_graph_order rfl rfl rfl fun B hB => ?_
  rw [omap_snoc, hoc]
  have hnew := new_omap ords c (by omega)
  repeat' (first
   | (with_reducible refine OL.st ?_)
   | (with_reducible refine OL.lit ?_)
   | (with_reducible refine TC.region ?_)
   | (with_reducible refine TC.seq ?_)
   | (with_reducible refine OL.nil ?_)
   | (with_reducible refine TX.thenN ?_)
   | (with_reducible refine TC.skip ?_)
   | (with_reducible refine TC.ifD ?_ ?_ <;> (intro hc; try (exfalso; omega)))
   | fail)
  · have h0 : c = 0 := by omega
    subst h0
    skip
    refine OL.vw 14 ?_
    refine OL.mapNew ?_ hnew
    repeat' (first
     | (with_reducible refine OL.nil ?_)
     | (with_reducible refine TX.thenN ?_)
     | (with_reducible refine TC.ret ?_)
     | (with_reducible refine TX.thenR ?_)
     | fail)
    exact TX.rt0 [0, 1]
  · have hc0 : c ≠ 0 := by omega
    have hol := hok.small (by omega)
    have hb := fun all (h : listsOf ords pss[c] = some all) => listsOf_bounds h hok (by omega) (by omega) hps
    have hs := s_line_graph_lists pss us ords c hcl hps (fun o ho => Nat.le_trans (hol o ho) (by omega)) (by omega)
    rw [ordOf, if_neg hc0, orderOf]
    cases hls : listsOf ords pss[c] with
    | none =>
      rw [hls] at hs
      simp only [Option.getD_none, Option.isSome_none] at hs
      simp only [List.append_nil, List.isEmpty_nil, if_true]
      refine OL.ch [0, 1] hs Fn.line_graph_lists ?_
      repeat' (first
       | (with_reducible refine OL.st ?_)
       | (with_reducible refine TC.region ?_)
       | (with_reducible refine TC.seq ?_)
       | (with_reducible refine OL.nil ?_)
       | (with_reducible refine TX.thenN ?_)
       | (with_reducible refine TC.ifT ?_)
       | (with_reducible refine TC.ret ?_)
       | (with_reducible refine TX.thenR ?_)
       | fail)
      exact TX.rt0 [0, 1]
    | some all =>
      obtain ⟨hb1, hb2, hb3⟩ := hb all hls
      have hlen : (merge all).1.length ≤ 1000000 := Nat.le_trans (merge_length all) (by omega)
      rw [hls] at hs
      simp only [Option.getD_some, Option.isSome_some] at hs
      refine OL.ch [0, 1] hs Fn.line_graph_lists ?_
      repeat' (first
       | (with_reducible refine OL.st ?_)
       | (with_reducible refine TC.region ?_)
       | (with_reducible refine TC.seq ?_)
       | (with_reducible refine OL.nil ?_)
       | (with_reducible refine TX.thenN ?_)
       | (with_reducible refine TC.skip ?_)
       | (with_reducible refine TC.ifF ?_)
       | fail)
      refine OL.c (s_line_merge all (by omega) (by omega)) Fn.line_merge ?_
      repeat' (first
       | (with_reducible refine OL.st ?_)
       | (with_reducible refine TC.region ?_)
       | (with_reducible refine TC.seq ?_)
       | (with_reducible refine OL.nil ?_)
       | (with_reducible refine TX.thenN ?_)
       | fail)
      refine TC.ifB (fun hm => ?_) (fun hm => ?_)
      · have e : (if (if (merge all).2 = true then (c : Int) :: ((merge all).1 ++ [0]) else []).isEmpty = true then [] else [((c : Int), ints (if (merge all).2 = true then (c : Int) :: ((merge all).1 ++ [0]) else []))]) = [((c : Int), AV.sl 1 none (V.int c :: ((merge all).1.map V.int ++ [V.int 0])))] := by simp [hm]
        rw [e, hm]
        skip
        refine TC.vw 6 ?_
        (with_reducible refine TC.draw (id := 6) false 12 12 ?_) <;> (with_reducible refine OD.st 0 ?_) <;> (with_reducible refine OD.st 1 ?_) <;> (with_reducible refine OD.st 2 ?_) <;> (with_reducible refine OD.st 4 ?_) <;> (with_reducible refine OD.st 5 ?_) <;> (with_reducible refine OD.st 7 ?_) <;> ((with_reducible refine OD.n3 3 6 9 ?_ ?_ ?_) <;> (first | ((with_reducible refine NextBy.at 3 ?_) <;> (with_reducible refine NextBy.s ?_) <;> ((with_reducible refine OD.n2 6 9 ?_ ?_) <;> (first | ((with_reducible refine NextBy.at 6 ?_) <;> (with_reducible refine NextBy.a ?_; with_reducible refine OL.lit ?_; with_reducible refine OL.nil ?_; with_reducible refine TX.od ?_) <;> ((with_reducible refine OD.n2 8 9 ?_ ?_) <;> (first | ((with_reducible refine NextBy.at 8 ?_) <;> (with_reducible refine NextBy.a ?_; with_reducible refine OL.app ?_; with_reducible refine OL.nil ?_; with_reducible refine TX.od ?_) <;> (with_reducible refine OD.a1 9 ?_; with_reducible refine OL.lit ?_; with_reducible refine OL.nil ?_; with_reducible refine TX.od ?_) <;> (with_reducible refine OD.a1 10 ?_; with_reducible refine OL.appO ?_; with_reducible refine OL.nil ?_; with_reducible refine TX.od ?_) <;> (with_reducible refine OD.a1 11 ?_; with_reducible refine OL.vw 39 ?_; refine OL.mapNew ?_ hnew; with_reducible refine OL.nil ?_; with_reducible refine TX.od ?_) <;> (with_reducible refine OD.dn ?_)) | ((with_reducible refine NextBy.at 9 ?_) <;> (with_reducible refine NextBy.a ?_; with_reducible refine OL.lit ?_; with_reducible refine OL.nil ?_; with_reducible refine TX.od ?_) <;> (with_reducible refine OD.a1 8 ?_; with_reducible refine OL.app ?_; with_reducible refine OL.nil ?_; with_reducible refine TX.od ?_) <;> (with_reducible refine OD.a1 10 ?_; with_reducible refine OL.appO ?_; with_reducible refine OL.nil ?_; with_reducible refine TX.od ?_) <;> (with_reducible refine OD.a1 11 ?_; with_reducible refine OL.vw 39 ?_; refine OL.mapNew ?_ hnew; with_reducible refine OL.nil ?_; with_reducible refine TX.od ?_) <;> (with_reducible refine OD.dn ?_))))) | ((with_reducible refine NextBy.at 9 ?_) <;> (with_reducible refine NextBy.a ?_; with_reducible refine OL.lit ?_; with_reducible refine OL.nil ?_; with_reducible refine TX.od ?_) <;> (with_reducible refine OD.a1 6 ?_; with_reducible refine OL.lit ?_; with_reducible refine OL.nil ?_; with_reducible refine TX.od ?_) <;> (with_reducible refine OD.a1 8 ?_; with_reducible refine OL.app ?_; with_reducible refine OL.nil ?_; with_reducible refine TX.od ?_) <;> (with_reducible refine OD.a1 10 ?_; with_reducible refine OL.appO ?_; with_reducible refine OL.nil ?_; with_reducible refine TX.od ?_) <;> (with_reducible refine OD.a1 11 ?_; with_reducible refine OL.vw 39 ?_; refine OL.mapNew ?_ hnew; with_reducible refine OL.nil ?_; with_reducible refine TX.od ?_) <;> (with_reducible refine OD.dn ?_))))) | ((with_reducible refine NextBy.at 6 ?_) <;> (with_reducible refine NextBy.a ?_; with_reducible refine OL.lit ?_; with_reducible refine OL.nil ?_; with_reducible refine TX.od ?_) <;> ((with_reducible refine OD.n3 3 8 9 ?_ ?_ ?_) <;> (first | ((with_reducible refine NextBy.at 3 ?_) <;> (with_reducible refine NextBy.s ?_) <;> ((with_reducible refine OD.n2 8 9 ?_ ?_) <;> (first | ((with_reducible refine NextBy.at 8 ?_) <;> (with_reducible refine NextBy.a ?_; with_reducible refine OL.app ?_; with_reducible refine OL.nil ?_; with_reducible refine TX.od ?_) <;> (with_reducible refine OD.a1 9 ?_; with_reducible refine OL.lit ?_; with_reducible refine OL.nil ?_; with_reducible refine TX.od ?_) <;> (with_reducible refine OD.a1 10 ?_; with_reducible refine OL.appO ?_; with_reducible refine OL.nil ?_; with_reducible refine TX.od ?_) <;> (with_reducible refine OD.a1 11 ?_; with_reducible refine OL.vw 39 ?_; refine OL.mapNew ?_ hnew; with_reducible refine OL.nil ?_; with_reducible refine TX.od ?_) <;> (with_reducible refine OD.dn ?_)) | ((with_reducible refine NextBy.at 9 ?_) <;> (with_reducible refine NextBy.a ?_; with_reducible refine OL.lit ?_; with_reducible refine OL.nil ?_; with_reducible refine TX.od ?_) <;> (with_reducible refine OD.a1 8 ?_; with_reducible refine OL.app ?_; with_reducible refine OL.nil ?_; with_reducible refine TX.od ?_) <;> (with_reducible refine OD.a1 10 ?_; with_reducible refine OL.appO ?_; with_reducible refine OL.nil ?_; with_reducible refine TX.od ?_) <;> (with_reducible refine OD.a1 11 ?_; with_reducible refine OL.vw 39 ?_; refine OL.mapNew ?_ hnew; with_reducible refine OL.nil ?_; with_reducible refine TX.od ?_) <;> (with_reducible refine OD.dn ?_))))) | ((with_reducible refine NextBy.at 8 ?_) <;> (with_reducible refine NextBy.a ?_; with_reducible refine OL.app ?_; with_reducible refine OL.nil ?_; with_reducible refine TX.od ?_) <;> ((with_reducible refine OD.n2 3 9 ?_ ?_) <;> (first | ((with_reducible refine NextBy.at 3 ?_) <;> (with_reducible refine NextBy.s ?_) <;> (with_reducible refine OD.a1 9 ?_; with_reducible refine OL.lit ?_; with_reducible refine OL.nil ?_; with_reducible refine TX.od ?_) <;> (with_reducible refine OD.a1 10 ?_; with_reducible refine OL.appO ?_; with_reducible refine OL.nil ?_; with_reducible refine TX.od ?_) <;> (with_reducible refine OD.a1 11 ?_; with_reducible refine OL.vw 39 ?_; refine OL.mapNew ?_ hnew; with_reducible refine OL.nil ?_; with_reducible refine TX.od ?_) <;> (with_reducible refine OD.dn ?_)) | ((with_reducible refine NextBy.at 9 ?_) <;> (with_reducible refine NextBy.a ?_; with_reducible refine OL.lit ?_; with_reducible refine OL.nil ?_; with_reducible refine TX.od ?_) <;> ((with_reducible refine OD.n2 3 10 ?_ ?_) <;> (first | ((with_reducible refine NextBy.at 3 ?_) <;> (with_reducible refine NextBy.s ?_) <;> (with_reducible refine OD.a1 10 ?_; with_reducible refine OL.appO ?_; with_reducible refine OL.nil ?_; with_reducible refine TX.od ?_) <;> (with_reducible refine OD.a1 11 ?_; with_reducible refine OL.vw 39 ?_; refine OL.mapNew ?_ hnew; with_reducible refine OL.nil ?_; with_reducible refine TX.od ?_) <;> (with_reducible refine OD.dn ?_)) | ((with_reducible refine NextBy.at 10 ?_) <;> (with_reducible refine NextBy.a ?_; with_reducible refine OL.appO ?_; with_reducible refine OL.nil ?_; with_reducible refine TX.od ?_) <;> (with_reducible refine OD.s1 3 ?_) <;> (with_reducible refine OD.a1 11 ?_; with_reducible refine OL.vw 39 ?_; refine OL.mapNew ?_ hnew; with_reducible refine OL.nil ?_; with_reducible refine TX.od ?_) <;> (with_reducible refine OD.dn ?_)))))))) | ((with_reducible refine NextBy.at 9 ?_) <;> (with_reducible refine NextBy.a ?_; with_reducible refine OL.lit ?_; with_reducible refine OL.nil ?_; with_reducible refine TX.od ?_) <;> ((with_reducible refine OD.n2 3 8 ?_ ?_) <;> (first | ((with_reducible refine NextBy.at 3 ?_) <;> (with_reducible refine NextBy.s ?_) <;> (with_reducible refine OD.a1 8 ?_; with_reducible refine OL.app ?_; with_reducible refine OL.nil ?_; with_reducible refine TX.od ?_) <;> (with_reducible refine OD.a1 10 ?_; with_reducible refine OL.appO ?_; with_reducible refine OL.nil ?_; with_reducible refine TX.od ?_) <;> (with_reducible refine OD.a1 11 ?_; with_reducible refine OL.vw 39 ?_; refine OL.mapNew ?_ hnew; with_reducible refine OL.nil ?_; with_reducible refine TX.od ?_) <;> (with_reducible refine OD.dn ?_)) | ((with_reducible refine NextBy.at 8 ?_) <;> (with_reducible refine NextBy.a ?_; with_reducible refine OL.app ?_; with_reducible refine OL.nil ?_; with_reducible refine TX.od ?_) <;> ((with_reducible refine OD.n2 3 10 ?_ ?_) <;> (first | ((with_reducible refine NextBy.at 3 ?_) <;> (with_reducible refine NextBy.s ?_) <;> (with_reducible refine OD.a1 10 ?_; with_reducible refine OL.appO ?_; with_reducible refine OL.nil ?_; with_reducible refine TX.od ?_) <;> (with_reducible refine OD.a1 11 ?_; with_reducible refine OL.vw 39 ?_; refine OL.mapNew ?_ hnew; with_reducible refine OL.nil ?_; with_reducible refine TX.od ?_) <;> (with_reducible refine OD.dn ?_)) | ((with_reducible refine NextBy.at 10 ?_) <;> (with_reducible refine NextBy.a ?_; with_reducible refine OL.appO ?_; with_reducible refine OL.nil ?_; with_reducible refine TX.od ?_) <;> (with_reducible refine OD.s1 3 ?_) <;> (with_reducible refine OD.a1 11 ?_; with_reducible refine OL.vw 39 ?_; refine OL.mapNew ?_ hnew; with_reducible refine OL.nil ?_; with_reducible refine TX.od ?_) <;> (with_reducible refine OD.dn ?_))))))))))) | ((with_reducible refine NextBy.at 9 ?_) <;> (with_reducible refine NextBy.a ?_; with_reducible refine OL.lit ?_; with_reducible refine OL.nil ?_; with_reducible refine TX.od ?_) <;> ((with_reducible refine OD.n2 3 6 ?_ ?_) <;> (first | ((with_reducible refine NextBy.at 3 ?_) <;> (with_reducible refine NextBy.s ?_) <;> (with_reducible refine OD.a1 6 ?_; with_reducible refine OL.lit ?_; with_reducible refine OL.nil ?_; with_reducible refine TX.od ?_) <;> (with_reducible refine OD.a1 8 ?_; with_reducible refine OL.app ?_; with_reducible refine OL.nil ?_; with_reducible refine TX.od ?_) <;> (with_reducible refine OD.a1 10 ?_; with_reducible refine OL.appO ?_; with_reducible refine OL.nil ?_; with_reducible refine TX.od ?_) <;> (with_reducible refine OD.a1 11 ?_; with_reducible refine OL.vw 39 ?_; refine OL.mapNew ?_ hnew; with_reducible refine OL.nil ?_; with_reducible refine TX.od ?_) <;> (with_reducible refine OD.dn ?_)) | ((with_reducible refine NextBy.at 6 ?_) <;> (with_reducible refine NextBy.a ?_; with_reducible refine OL.lit ?_; with_reducible refine OL.nil ?_; with_reducible refine TX.od ?_) <;> ((with_reducible refine OD.n2 3 8 ?_ ?_) <;> (first | ((with_reducible refine NextBy.at 3 ?_) <;> (with_reducible refine NextBy.s ?_) <;> (with_reducible refine OD.a1 8 ?_; with_reducible refine OL.app ?_; with_reducible refine OL.nil ?_; with_reducible refine TX.od ?_) <;> (with_reducible refine OD.a1 10 ?_; with_reducible refine OL.appO ?_; with_reducible refine OL.nil ?_; with_reducible refine TX.od ?_) <;> (with_reducible refine OD.a1 11 ?_; with_reducible refine OL.vw 39 ?_; refine OL.mapNew ?_ hnew; with_reducible refine OL.nil ?_; with_reducible refine TX.od ?_) <;> (with_reducible refine OD.dn ?_)) | ((with_reducible refine NextBy.at 8 ?_) <;> (with_reducible refine NextBy.a ?_; with_reducible refine OL.app ?_; with_reducible refine OL.nil ?_; with_reducible refine TX.od ?_) <;> ((with_reducible refine OD.n2 3 10 ?_ ?_) <;> (first | ((with_reducible refine NextBy.at 3 ?_) <;> (with_reducible refine NextBy.s ?_) <;> (with_reducible refine OD.a1 10 ?_; with_reducible refine OL.appO ?_; with_reducible refine OL.nil ?_; with_reducible refine TX.od ?_) <;> (with_reducible refine OD.a1 11 ?_; with_reducible refine OL.vw 39 ?_; refine OL.mapNew ?_ hnew; with_reducible refine OL.nil ?_; with_reducible refine TX.od ?_) <;> (with_reducible refine OD.dn ?_)) | ((with_reducible refine NextBy.at 10 ?_) <;> (with_reducible refine NextBy.a ?_; with_reducible refine OL.appO ?_; with_reducible refine OL.nil ?_; with_reducible refine TX.od ?_) <;> (with_reducible refine OD.s1 3 ?_) <;> (with_reducible refine OD.a1 11 ?_; with_reducible refine OL.vw 39 ?_; refine OL.mapNew ?_ hnew; with_reducible refine OL.nil ?_; with_reducible refine TX.od ?_) <;> (with_reducible refine OD.dn ?_)))))))))))))
        all_goals repeat' (first | (with_reducible refine TX.end_ ?_) | fail)
        all_goals exact TX.rt0 [0, 1]
      · have e : (if (if (merge all).2 = true then (c : Int) :: ((merge all).1 ++ [0]) else []).isEmpty = true then [] else [((c : Int), ints (if (merge all).2 = true then (c : Int) :: ((merge all).1 ++ [0]) else []))]) = [] := by simp [hm]
        rw [e, hm, List.append_nil]
        repeat' (first | (with_reducible refine TC.skip ?_) | (with_reducible refine TX.end_ ?_) | fail)
        exact TX.rt0 [0, 1]
end Go.Proofs
/- line's open. -/
namespace Go.Proofs
open Go Go.W Go.V
/-! ### What open finds -/
def upK (us : List Nat) (ps : List Int) (c : Nat) (i : Nat) : Nat := (ps.take i).foldl (fun s p => s ||| us.getD p.toNat 0) (setWith (setWith 0 c) 0)
def upOf (us : List Nat) (ps : List Int) (c : Nat) : Nat := upK us ps c ps.length
theorem upK_succ {us ps c i} (h : i < ps.length) (hp : ps[i].toNat < us.length) : upK us ps c (i + 1) = upK us ps c i ||| us[ps[i].toNat] := by
  unfold upK; rw [take_succ h, List.foldl_append, List.foldl_cons, List.foldl_nil, getD_lt hp]
def upsF : List Nat → List (List Int) → List Nat
  | us, [] => us
  | us, ps :: r => upsF (us ++ [upOf us ps us.length]) r
def ups (g : List (List Int)) : List Nat := upsF [] (parentsOf g)
def oks (g : List (List Int)) (l : List Int) : Bool := fine g && l.all fun c => decide (0 ≤ c) && decide (c < 3 + (g.length : Int))
def openR (g : List (List Int)) (l : List Int) : AV := if oks g l then .tp [.bp 0 0, V.bool true] else .tp [.raw (.pointer none), V.bool false]
def openE (g : List (List Int)) (l : List Int) : V.Eta := if oks g l then [graphO (parentsOf g) (ups g) 1, .mo (omap (orders g))] else []
set_option maxHeartbeats 2000000 in
theorem s_line_open (g : List (List Int)) (l : List Int) : V.Spec Try.prog Fc.line_open [rows g, ints l] [] (openR g l) (openE g l) := by
  refine V.Spec.enter Try.tabOK Try.mixed Fn.line_open rfl rfl rfl fun B hB => ?_
  repeat' (first
   | (with_reducible refine OL.st ?_)
   | (with_reducible refine TC.region ?_)
   | (with_reducible refine TC.seq ?_)
   | (with_reducible refine OL.nil ?_)
   | (with_reducible refine TX.thenN ?_)
   | fail)
  refine OL.c (s_line_fine g) Fn.line_fine ?_
  cases hf : fine g
  · have ho : oks g l = false := by simp [oks, hf]
    rw [openR, openE, ho]
    repeat' (first
     | (with_reducible refine OL.st ?_)
     | (with_reducible refine TC.region ?_)
     | (with_reducible refine TC.seq ?_)
     | (with_reducible refine OL.nil ?_)
     | (with_reducible refine TX.thenN ?_)
     | (with_reducible refine TC.ifT ?_)
     | (with_reducible refine TC.ret ?_)
     | (with_reducible refine TX.thenR ?_)
     | fail)
    exact TX.rt2 [] (.ren rfl) (.ren rfl)
  have h16 := fine_len hf
  repeat' (first
   | (with_reducible refine OL.st ?_)
   | (with_reducible refine TC.region ?_)
   | (with_reducible refine TC.seq ?_)
   | (with_reducible refine OL.nil ?_)
   | (with_reducible refine TX.thenN ?_)
   | (with_reducible refine TC.block ?_)
   | (with_reducible refine TC.skip ?_)
   | (with_reducible refine TC.ifF ?_)
   | fail)
  refine TC.bl 18 fun hbl => ?_
  refine TC.lp (fun i : Nat => [(0, rows g), (18, ints l), (19, V.int l.length), (20, V.int i)]) (fun _ => []) (fun i => i ≤ l.length ∧ (l.take i).all (fun c => decide (0 ≤ c) && decide (c < 3 + (g.length : Int))) = true) (fun i => l.length - i) 0 [] ⟨Nat.zero_le _, rfl⟩ ?_
  rintro i ⟨hi, hall⟩
  have hbad : ∀ h : i < l.length, (decide (0 ≤ l[i]) && decide (l[i] < 3 + (g.length : Int))) = false → oks g l = false := by
    intro h hb
    rw [oks, hf, Bool.true_and, List.all_eq_false]
    exact ⟨l[i], List.getElem_mem h, by rw [hb]; simp⟩
  repeat' (first
   | (with_reducible refine OL.st ?_)
   | (with_reducible refine TC.region ?_)
   | (with_reducible refine TC.seq ?_)
   | (with_reducible refine OL.nil ?_)
   | (with_reducible refine TX.thenN ?_)
   | (with_reducible refine TC.block ?_)
   | (with_reducible refine TC.skip ?_)
   | (with_reducible refine TX.blkN ?_)
   | (with_reducible refine TC.exit ?_)
   | (with_reducible refine TX.hit ?_)
   | (with_reducible refine TX.thenX ?_)
   | (with_reducible refine TC.ifT ?_)
   | (with_reducible refine OL.gOn ?_)
   | (with_reducible refine OL.gOff ?_)
   | (with_reducible refine TC.ifD ?_ ?_ <;> (intro hc; try (exfalso; omega)))
   | (with_reducible refine OL.gD ?_ ?_ <;> (intro hc; try (exfalso; omega)))
   | (with_reducible refine TC.ret ?_)
   | (with_reducible refine TX.thenR ?_)
   | (with_reducible refine TX.blkR ?_)
   | fail)
  · have ho := hbad (by omega) (by rw [decide_eq_false (by omega : ¬ 0 ≤ l[i])]; rfl)
    rw [openR, openE, ho]
    exact TX.rt2 [] (.ren rfl) (.ren rfl)
  · have ho := hbad (by omega) (by rw [decide_eq_false (by omega : ¬ l[i] < 3 + (g.length : Int)), Bool.and_false])
    rw [openR, openE, ho]
    exact TX.rt2 [] (.ren rfl) (.ren rfl)
  · refine TX.rd (i + 1) [] ⟨by omega, ?_⟩ (by omega)
    rw [take_succ (by omega), List.all_append, hall]
    simp
    omega
  · rw [take_all (by omega)] at hall
    have hoks : oks g l = true := by rw [oks, hf, hall]; rfl
    have hokc : OrdOK [] := fun c o h => by simp at h
    rw [openR, openE, hoks, if_pos rfl, if_pos rfl]
    skip
    refine OL.make (l := 3) (c := 3 + g.length) (u := ints []) (u0 := ints []) ?_ (fun m w γ => .nil nofun)
    repeat' (first
     | (with_reducible refine OL.st ?_)
     | (with_reducible refine OL.box ?_)
     | (with_reducible refine OL.store ?_)
     | (with_reducible refine OL.app ?_)
     | (with_reducible refine OL.makeMap ?_)
     | (with_reducible refine OL.build ?_)
     | (with_reducible refine TC.region ?_)
     | (with_reducible refine TC.seq ?_)
     | (with_reducible refine OL.nil ?_)
     | (with_reducible refine TX.thenN ?_)
     | (with_reducible refine TC.block ?_)
     | fail)
    have hpe : ints [] :: ints [] :: ints [] :: g.map ints = (parentsOf g).map ints := by simp [parentsOf]
    have hpl : (parentsOf g).length = 3 + g.length := parentsOf_length g
    have hpl2 : ((parentsOf g).map ints).length = 3 + g.length := by rw [List.length_map, hpl]
    refine TC.vw 53 ?_
    refine TC.vwC 2 0 ?_
    rw [hpe]
    skip
    refine TC.adpC 2 1 Tc.line_set 1 ?_
    refine TC.lp (fun s : List Nat => [(8, .bp 0 0), (53, rows (parentsOf g)), (54, V.int ((parentsOf g).map ints).length), (55, V.int s.length)]) (fun s => [.cb Tc.line_graph [rows (parentsOf g), .hs 2, .mp 1], .mo [], .gs false Tc.line_set 1 none (s.map setA)])
      (fun s => s.length ≤ 3 + g.length ∧ ups g = upsF s ((parentsOf g).drop s.length) ∧ (∀ u ∈ s, u < 2 ^ 64)) (fun s => 3 + g.length - s.length) [] [2, 1, 4] ⟨Nat.zero_le _, rfl, by simp⟩ ?_
    rintro us ⟨hcl, hus, hu64⟩
    repeat' (first
     | (with_reducible refine OL.st ?_)
     | (with_reducible refine TC.region ?_)
     | (with_reducible refine TC.seq ?_)
     | (with_reducible refine OL.nil ?_)
     | (with_reducible refine TX.thenN ?_)
     | (with_reducible refine TC.block ?_)
     | (with_reducible refine TC.skip ?_)
     | (with_reducible refine TC.exit ?_)
     | (with_reducible refine TX.hit ?_)
     | (with_reducible refine TX.thenX ?_)
     | (with_reducible refine TC.ifD ?_ ?_ <;> (intro hc; try (exfalso; omega)))
     | fail)
    · have hclt : us.length < 3 + g.length := by omega
      have hpq : (parentsOf g)[us.length]'(by omega) = pOf g us.length := by
        have := parentsOf_get hclt
        rw [List.getElem?_eq_getElem (by omega)] at this
        simpa using this
      obtain ⟨hp3, hpr, hpn⟩ := fine_pOf hf (c := (us.length : Int)) (by omega)
      rw [← hpq] at hp3 hpr hpn
      have hdrop : (parentsOf g).drop us.length = (parentsOf g)[us.length] :: (parentsOf g).drop (us.length + 1) := drop_cons (by omega)
      rw [hdrop] at hus
      generalize (parentsOf g)[us.length] = ps at *
      have hs1 := s_line_set_with 0 (by decide) us.length (by omega) (by omega)
      have hlt1 : setWith 0 us.length < 2 ^ 64 := setWith_lt (by decide) (by omega)
      have hs2 := s_line_set_with (setWith 0 us.length) hlt1 0 (by omega) (by omega)
      have hlt2 : setWith (setWith 0 us.length) 0 < 2 ^ 64 := setWith_lt hlt1 (by omega)
      rw [Int.toNat_natCast] at hs1
      rw [Int.toNat_zero] at hs2
      refine OL.buildA ?_
      repeat' (first | (with_reducible refine OL.st ?_) | fail)
      refine OL.c hs1 Fn.line_set_with ?_
      skip
      refine OL.c hs2 Fn.line_set_with ?_
      repeat' (first
       | (with_reducible refine OL.st ?_)
       | (with_reducible refine OL.alloc ?_)
       | (with_reducible refine OL.storeAgg ?_)
       | (with_reducible refine TC.region ?_)
       | (with_reducible refine TC.seq ?_)
       | (with_reducible refine OL.nil ?_)
       | (with_reducible refine TX.thenN ?_)
       | (with_reducible refine TC.block ?_)
       | fail)
      have e0 : setWith (setWith 0 us.length) 0 = upK us ps us.length 0 := rfl
      rw [e0]
      refine TC.lp (fun i : Nat => [(8, .bp 0 0), (11, .bp 3 0), (53, rows (parentsOf g)), (54, V.int ((parentsOf g).map ints).length), (55, V.int us.length), (64, ints ps), (65, V.int ps.length), (66, V.int i)]) (fun i => [.cb Tc.line_graph [rows (parentsOf g), .hs 2, .mp 1], .mo [], .gs false Tc.line_set 1 none (us.map setA), .cb Tc.line_set [V.u64 (upK us ps us.length i)]])
        (fun i => i ≤ ps.length ∧ upK us ps us.length i < 2 ^ 64) (fun i => ps.length - i) 0 [0, 1, 2, 3] ⟨Nat.zero_le _, hlt2⟩ ?_
      rintro i ⟨hi', hs64⟩
      repeat' (first
       | (with_reducible refine OL.st ?_)
       | (with_reducible refine TC.region ?_)
       | (with_reducible refine TC.seq ?_)
       | (with_reducible refine OL.nil ?_)
       | (with_reducible refine TX.thenN ?_)
       | (with_reducible refine TC.block ?_)
       | (with_reducible refine TC.skip ?_)
       | (with_reducible refine TC.exit ?_)
       | (with_reducible refine TX.hit ?_)
       | (with_reducible refine TX.thenX ?_)
       | (with_reducible refine TC.ifD ?_ ?_ <;> (intro hc; try (exfalso; omega)))
       | fail)
      · have hpi := hpr ps[i] (List.getElem_mem _)
        have hpu : ps[i].toNat < us.length := by omega
        have hx64 := hu64 _ (List.getElem_mem hpu)
        have hor := s_line_set_or (upK us ps us.length i) us[ps[i].toNat] hs64 hx64
        have hlt := Nat.or_lt_two_pow hs64 hx64
        rw [← upK_succ (by omega) hpu] at hor hlt
        (with_reducible refine TC.draw (id := 18) true 9 10 ?_) <;> (with_reducible refine OD.st 0 ?_) <;> (with_reducible refine OD.st 1 ?_) <;> (with_reducible refine OD.st 2 ?_) <;> (with_reducible refine OD.st 3 ?_) <;> (with_reducible refine OD.st 4 ?_) <;> (with_reducible refine OD.st 5 ?_) <;> (with_reducible refine OD.st 6 ?_) <;> (with_reducible refine OD.st 7 ?_) <;> (with_reducible refine OD.c1 8 hor Fn.line_set_or ?_) <;> (with_reducible refine OD.a1 9 ?_; with_reducible refine OL.storeAgg ?_; with_reducible refine OL.nil ?_; with_reducible refine TX.od ?_) <;> (with_reducible refine OD.dn ?_)
        repeat' (first
         | (with_reducible refine OL.st ?_)
         | (with_reducible refine TC.region ?_)
         | (with_reducible refine OL.nil ?_)
         | (with_reducible refine TX.thenN ?_)
         | (with_reducible refine TX.blkN ?_)
         | fail)
        exact TX.rd (i + 1) [0, 1, 2, 3] ⟨by omega, hlt⟩ (by omega)
      · have e1 : upK us ps us.length i = upOf us ps us.length := by rw [upOf, show i = ps.length by omega]
        rw [e1] at hs64
        rw [e1]
        rw [upsF] at hus
        have e : us.map setA ++ [setA (upOf us ps us.length)] = (us ++ [upOf us ps us.length]).map setA := by simp
        have e2 : ((us.length : Int) + 1) = ((us ++ [upOf us ps us.length]).length : Nat) := by simp
        (with_reducible refine TC.draw (id := 20) false 11 11 ?_) <;> (with_reducible refine OD.st 0 ?_) <;> (with_reducible refine OD.st 1 ?_) <;> (with_reducible refine OD.st 2 ?_) <;> (with_reducible refine OD.st 3 ?_) <;> ((with_reducible refine OD.n2 4 5 ?_ ?_) <;> (first | ((with_reducible refine NextBy.at 4 ?_) <;> (with_reducible refine NextBy.s ?_) <;> (with_reducible refine OD.s1 5 ?_) <;> (with_reducible refine OD.a1 6 ?_; with_reducible refine OL.lit ?_; with_reducible refine OL.nil ?_; with_reducible refine TX.od ?_) <;> (with_reducible refine OD.a1 7 ?_; with_reducible refine OL.appO ?_; with_reducible refine OL.nil ?_; with_reducible refine TX.od ?_) <;> (with_reducible refine OD.st 8 ?_) <;> (with_reducible refine OD.st 9 ?_) <;> (with_reducible refine OD.a1 10 ?_; with_reducible refine OL.store ?_; with_reducible refine OL.nil ?_; with_reducible refine TX.od ?_) <;> (with_reducible refine OD.dn ?_)) | ((with_reducible refine NextBy.at 5 ?_) <;> (with_reducible refine NextBy.s ?_) <;> ((with_reducible refine OD.n2 4 6 ?_ ?_) <;> (first | ((with_reducible refine NextBy.at 4 ?_) <;> (with_reducible refine NextBy.s ?_) <;> (with_reducible refine OD.a1 6 ?_; with_reducible refine OL.lit ?_; with_reducible refine OL.nil ?_; with_reducible refine TX.od ?_) <;> (with_reducible refine OD.a1 7 ?_; with_reducible refine OL.appO ?_; with_reducible refine OL.nil ?_; with_reducible refine TX.od ?_) <;> (with_reducible refine OD.st 8 ?_) <;> (with_reducible refine OD.st 9 ?_) <;> (with_reducible refine OD.a1 10 ?_; with_reducible refine OL.store ?_; with_reducible refine OL.nil ?_; with_reducible refine TX.od ?_) <;> (with_reducible refine OD.dn ?_)) | ((with_reducible refine NextBy.at 6 ?_) <;> (with_reducible refine NextBy.a ?_; with_reducible refine OL.lit ?_; with_reducible refine OL.nil ?_; with_reducible refine TX.od ?_) <;> (with_reducible refine OD.s1 4 ?_) <;> (with_reducible refine OD.a1 7 ?_; with_reducible refine OL.appO ?_; with_reducible refine OL.nil ?_; with_reducible refine TX.od ?_) <;> (with_reducible refine OD.st 8 ?_) <;> (with_reducible refine OD.st 9 ?_) <;> (with_reducible refine OD.a1 10 ?_; with_reducible refine OL.store ?_; with_reducible refine OL.nil ?_; with_reducible refine TX.od ?_) <;> (with_reducible refine OD.dn ?_)))))))
        all_goals repeat' (first
                   | (with_reducible refine OL.st ?_)
                   | (with_reducible refine TC.region ?_)
                   | (with_reducible refine OL.nil ?_)
                   | (with_reducible refine TX.thenN ?_)
                   | (with_reducible refine TX.blkN ?_)
                   | fail)
        all_goals refine TX.rd (us ++ [upOf us ps us.length]) [0, 1, 5] ⟨by simp; omega, by simpa using hus, fun u hu => (List.mem_append.1 hu).elim (hu64 u) fun h => by rw [List.mem_singleton.1 h]; exact hs64⟩ (by simp; omega)
    · have hue : ups g = us := by rw [hus, drop_nil (by omega)]; rfl
      rw [hue]
      refine TC.vwC 0 1 ?_
      refine TC.lp (fun s : List (List Int) => [(8, .bp 0 0), (95, V.int (parentsOf g).length), (96, V.int s.length)]) (fun s => [graphO (parentsOf g) us 1, .mo (omap s)])
        (fun s => s.length ≤ (parentsOf g).length ∧ OrdOK s ∧ ((s.length = 0 ∧ s = []) ∨ (0 < s.length ∧ orders g = ordersF s ((parentsOf g).drop s.length)))) (fun s => (parentsOf g).length - s.length) [] [0, 1] ⟨Nat.zero_le _, hokc, .inl ⟨rfl, rfl⟩⟩ ?_
      rintro ords ⟨hcl', hok, hor⟩
      repeat' (first
       | (with_reducible refine OL.st ?_)
       | (with_reducible refine TC.region ?_)
       | (with_reducible refine TC.seq ?_)
       | (with_reducible refine OL.nil ?_)
       | (with_reducible refine TX.thenN ?_)
       | (with_reducible refine TC.block ?_)
       | (with_reducible refine TC.skip ?_)
       | (with_reducible refine TC.exit ?_)
       | (with_reducible refine TX.hit ?_)
       | (with_reducible refine TX.thenX ?_)
       | (with_reducible refine TC.ifD ?_ ?_ <;> (intro hc; try (exfalso; omega)))
       | (with_reducible refine TC.ret ?_)
       | fail)
      · have hclt : ords.length < 3 + g.length := by omega
        have hpq : (parentsOf g)[ords.length]'(by omega) = pOf g ords.length := by
          have := parentsOf_get hclt
          rw [List.getElem?_eq_getElem (by omega)] at this
          simpa using this
        obtain ⟨hp3, hpr, hpn⟩ := fine_pOf hf (c := (ords.length : Int)) (by omega)
        have hs := s_line_graph_order (parentsOf g) us ords ords.length (by omega) rfl (by omega) (by rw [hpq]; intro p hp; have := hpr p hp; omega) hok (by rw [hpq]; exact hp3)
        rw [hpq] at hs
        refine OL.ch [0, 1] hs Fn.line_graph_order ?_
        repeat' (first
         | (with_reducible refine OL.st ?_)
         | (with_reducible refine TC.region ?_)
         | (with_reducible refine OL.nil ?_)
         | (with_reducible refine TX.thenN ?_)
         | (with_reducible refine TX.blkN ?_)
         | fail)
        have e2 : ((ords.length : Int) + 1) = ((ords ++ [ordOf ords (pOf g ords.length) ords.length]).length : Nat) := by simp
        refine TX.rd (ords ++ [ordOf ords (pOf g ords.length) ords.length]) [0, 1] ⟨by simp; omega, ?_, .inr ⟨by simp, ?_⟩⟩ (by simp; omega)
        · rcases hor with ⟨h0, rfl⟩ | ⟨h0, h1⟩
          · exact OrdOK.start
          · rw [ordOf, if_neg (by omega)]
            refine hok.snoc (orderOf_ok hok (fun p hp => ?_) (by omega))
            have := hpr p hp
            omega
        · rcases hor with ⟨h0, rfl⟩ | ⟨h0, h1⟩
          · rw [orders_start]; rfl
          · rw [h1, parentsOf_drop hclt, ordersF_cons, ordOf, if_neg (by omega)]
            simp
      · rcases hor with ⟨h0, rfl⟩ | ⟨h0, h1⟩
        · omega
        · rw [drop_nil (by omega)] at h1
          have h1 : orders g = ords := h1
          rw [h1]
          exact TX.rt2 [0, 1] (.ren rfl) (.ren rfl)
end Go.Proofs
/- slices.Clone; line's Lin. -/
namespace Go.Proofs
open Go Go.W Go.V
theorem s_slices_Clone_Lint_int (l : List Int) (hb : l.length ≤ 1000000000) : V.Spec Try.prog Fc.slices_Clone_Lint_int [ints l] [] (.hs 0) [.gs false Tc.int 1 none (l.map V.int)] := by
  refine V.Spec.enter Try.tabOK Try.mixed Fn.slices_Clone_Lint_int rfl rfl rfl fun B hB => ?_
  repeat' (first
   | (with_reducible refine OL.st ?_)
   | (with_reducible refine TC.region ?_)
   | (with_reducible refine TC.seq ?_)
   | (with_reducible refine OL.nil ?_)
   | (with_reducible refine TX.thenN ?_)
   | fail)
  refine OL.isNil (fun h => ?_) ?_
  · repeat' (first
     | (with_reducible refine OL.st ?_)
     | (with_reducible refine TC.region ?_)
     | (with_reducible refine TC.seq ?_)
     | (with_reducible refine OL.nil ?_)
     | (with_reducible refine TX.thenN ?_)
     | (with_reducible refine TC.ifT ?_)
     | (with_reducible refine TC.ret ?_)
     | (with_reducible refine TX.thenR ?_)
     | fail)
    have e : [] = l.map V.int := h.symm
    refine TX.adp 2 Tc.int 1 ?_
    exact TX.rt1 [0] (.ren rfl)
  · repeat' (first
     | (with_reducible refine OL.st ?_)
     | (with_reducible refine OL.lit0 ?_)
     | (with_reducible refine OL.app ?_)
     | (with_reducible refine TC.region ?_)
     | (with_reducible refine TC.seq ?_)
     | (with_reducible refine OL.nil ?_)
     | (with_reducible refine TX.thenN ?_)
     | (with_reducible refine TC.skip ?_)
     | (with_reducible refine TC.ifF ?_)
     | (with_reducible refine TC.ret ?_)
     | fail)
    exact TX.rt1 [1] (.ren rfl)
theorem oks_one (g : List (List Int)) (c : Int) : oks g [c] = okc g c := by simp [oks, okc]
theorem s_line_Lin (g : List (List Int)) (c : Int) : V.Spec Try.prog Fc.line_Lin [rows g, V.int c] [] (.tp [ints (linL g c), V.int (linE g c)]) [] := by
  refine V.Spec.enter Try.tabOK Try.mixed Fn.line_Lin rfl rfl rfl fun B hB => ?_
  have ho := s_line_open g [c]
  rw [openR, openE, oks_one] at ho
  repeat' (first
   | (with_reducible refine OL.st ?_)
   | (with_reducible refine OL.lit ?_)
   | (with_reducible refine TC.region ?_)
   | (with_reducible refine TC.seq ?_)
   | (with_reducible refine OL.nil ?_)
   | (with_reducible refine TX.thenN ?_)
   | fail)
  refine OL.vwA 1 ?_
  cases hok : okc g c
  · rw [hok] at ho
    simp only [Bool.false_eq_true, if_false] at ho
    refine OL.c ho Fn.line_open ?_
    repeat' (first
     | (with_reducible refine OL.st ?_)
     | (with_reducible refine TC.region ?_)
     | (with_reducible refine TC.seq ?_)
     | (with_reducible refine OL.nil ?_)
     | (with_reducible refine TX.thenN ?_)
     | (with_reducible refine TC.ifT ?_)
     | (with_reducible refine TC.ret ?_)
     | (with_reducible refine TX.thenR ?_)
     | fail)
    refine TX.rt2 [] (.nil' ?_) (.int ?_)
    · rw [linL, hok]; rfl
    · rw [linE, hok]; rfl
  · rw [hok] at ho
    simp only [if_true] at ho
    refine OL.c ho Fn.line_open ?_
    have h0 : 0 ≤ c := by
      simp only [okc, Bool.and_eq_true, decide_eq_true_eq] at hok
      exact hok.2.1
    have hf : fine g = true := by
      simp only [okc, Bool.and_eq_true] at hok
      exact hok.1
    have h16 := fine_len hf
    have hlen : (at_ (orders g) c).length ≤ 1000000000 := by
      have hs := (orders_ok hf).1.small (by have := (orders_ok hf).2; omega)
      rcases at_mem (ords := orders g) (p := c) with e | e
      · rw [e]; simp
      · exact Nat.le_trans (hs _ e) (by omega)
    repeat' (first
     | (with_reducible refine OL.st ?_)
     | (with_reducible refine TC.region ?_)
     | (with_reducible refine TC.seq ?_)
     | (with_reducible refine OL.nil ?_)
     | (with_reducible refine TX.thenN ?_)
     | (with_reducible refine TC.skip ?_)
     | (with_reducible refine TC.ifF ?_)
     | fail)
    refine OL.lookup ?_ (look_omap (orders g) c h0)
    repeat' (first
     | (with_reducible refine OL.st ?_)
     | (with_reducible refine TC.region ?_)
     | (with_reducible refine TC.seq ?_)
     | (with_reducible refine OL.nil ?_)
     | (with_reducible refine TX.thenN ?_)
     | (with_reducible refine TC.skip ?_)
     | (with_reducible refine TC.ifD ?_ ?_ <;> (intro hc; try (exfalso; omega)))
     | (with_reducible refine TC.ret ?_)
     | (with_reducible refine TX.thenR ?_)
     | fail)
    · have he : at_ (orders g) c = [] := List.eq_nil_of_length_eq_zero (by omega)
      refine TX.rt2 [] (.nil' ?_) (.int ?_)
      · rw [linL, if_pos hok, he]; rfl
      · rw [linE, if_pos hok, he]; rfl
    · refine OL.lookup ?_ (look_omap (orders g) c h0)
      skip
      refine OL.c (s_slices_Clone_Lint_int _ hlen) Fn.slices_Clone_Lint_int ?_
      repeat' (first
       | (with_reducible refine OL.st ?_)
       | (with_reducible refine OL.nil ?_)
       | (with_reducible refine TX.thenN ?_)
       | (with_reducible refine TC.ret ?_)
       | fail)
      refine TX.vw 4 ?_
      refine TX.rt2 [] (.sl' ?_) (.int ?_)
      · rw [linL, if_pos hok]
      · rw [linE, if_pos hok, if_neg (by omega)]
end Go.Proofs
/- line's after. -/
namespace Go.Proofs
open Go Go.W Go.V
/-! ### What after finds -/
/-- One list's part, from place i on. -/
def aftL (ss : List Nat) (l : List Int) : List Int → Nat → List Nat
  | [], _ => ss
  | c :: r, i => aftL (ss.set c.toNat (ss.getD c.toNat 0 ||| ofL (l.drop (i + 1)))) l r (i + 1)
def aftF (ss : List Nat) : List (List Int) → List Nat
  | [] => ss
  | l :: r => aftF (aftL ss l l 0) r
def aft (n : Nat) (all : List (List Int)) : List Nat := aftF (List.replicate n 0) all
set_option maxHeartbeats 1000000 in
theorem s_line_graph_after (pss : List (List Int)) (us : List Nat) (es : List (Int × AV)) (all : List (List Int)) (h0 : 0 < pss.length) (hn : pss.length ≤ 19) (hr : ∀ l ∈ all, ∀ c ∈ l, 0 ≤ c ∧ c < pss.length) :
    V.Spec Try.prog Fc.line_graph_after [.bp 0 0, rows all] [graphO pss us 1, .mo es] (sets (aft pss.length all)) [graphO pss us 1, .mo es] := by
  refine V.Spec.enter Try.tabOK Try.mixed Fn.line_graph_after rfl rfl rfl fun B hB => ?_
  refine TC.bl 1 fun hla => ?_
  repeat' (first
   | (with_reducible refine OL.st ?_)
   | (with_reducible refine TC.region ?_)
   | (with_reducible refine TC.seq ?_)
   | (with_reducible refine OL.nil ?_)
   | (with_reducible refine TX.thenN ?_)
   | fail)
  refine OL.make (l := pss.length) (c := pss.length) (u := setA 0) (u0 := V.u64 0) ?_ (fun m w γ => .raw rfl)
  repeat' (first
   | (with_reducible refine OL.st ?_)
   | (with_reducible refine TC.region ?_)
   | (with_reducible refine TC.seq ?_)
   | (with_reducible refine OL.nil ?_)
   | (with_reducible refine TX.thenN ?_)
   | (with_reducible refine TC.block ?_)
   | fail)
  have e0 : List.replicate pss.length (setA 0) = (List.replicate pss.length 0).map setA := by simp
  rw [e0]
  refine TC.lp (fun s : Nat × List Nat => [(5, .hs 2), (16, rows all), (17, V.int all.length), (18, V.int s.1)]) (fun s => [graphO pss us 1, .mo es, .gs false Tc.line_set 1 none (s.2.map setA)])
    (fun s => s.2.length = pss.length ∧ (∀ u ∈ s.2, u < 2 ^ 64) ∧ s.1 ≤ all.length ∧ aft pss.length all = aftF s.2 (all.drop s.1)) (fun s => all.length - s.1) (0, List.replicate pss.length 0) [0, 1, 2] ⟨by simp, by simp, Nat.zero_le _, rfl⟩ ?_
  rintro ⟨i, ss⟩ ⟨hsl, hs64, hi, hinv⟩
  simp only at hsl hs64 hi hinv ⊢
  repeat' (first
   | (with_reducible refine OL.st ?_)
   | (with_reducible refine TC.region ?_)
   | (with_reducible refine TC.seq ?_)
   | (with_reducible refine OL.nil ?_)
   | (with_reducible refine TX.thenN ?_)
   | (with_reducible refine TC.block ?_)
   | (with_reducible refine TC.skip ?_)
   | (with_reducible refine TC.exit ?_)
   | (with_reducible refine TX.hit ?_)
   | (with_reducible refine TX.thenX ?_)
   | (with_reducible refine TC.ifD ?_ ?_ <;> (intro hc; try (exfalso; omega)))
   | (with_reducible refine TC.ret ?_)
   | fail)
  · have hil : i < all.length := by omega
    have hrl := hr all[i] (List.getElem_mem _)
    rw [drop_cons hil, aftF] at hinv
    generalize hle : all[i] = l at *
    refine TC.bl 22 fun hll => ?_
    refine TC.lp (fun s : Nat × List Nat => [(5, .hs 2), (7, ints l), (16, rows all), (17, V.int all.length), (18, V.int i), (22, ints l), (23, V.int l.length), (24, V.int s.1)]) (fun s => [graphO pss us 1, .mo es, .gs false Tc.line_set 1 none (s.2.map setA)])
      (fun s => s.2.length = pss.length ∧ (∀ u ∈ s.2, u < 2 ^ 64) ∧ s.1 ≤ l.length ∧ aft pss.length all = aftF (aftL s.2 l (l.drop s.1) s.1) (all.drop (i + 1))) (fun s => l.length - s.1) (0, ss) [0, 1, 2] ⟨hsl, hs64, Nat.zero_le _, hinv⟩ ?_
    clear hs64 hinv hsl
    rintro ⟨k, ss⟩ ⟨hsl, hs64, hk, hinv⟩
    simp only at hsl hs64 hk hinv ⊢
    repeat' (first
     | (with_reducible refine OL.st ?_)
     | (with_reducible refine TC.region ?_)
     | (with_reducible refine TC.seq ?_)
     | (with_reducible refine OL.nil ?_)
     | (with_reducible refine TX.thenN ?_)
     | (with_reducible refine TC.block ?_)
     | (with_reducible refine TC.skip ?_)
     | (with_reducible refine TX.blkN ?_)
     | (with_reducible refine TC.exit ?_)
     | (with_reducible refine TX.hit ?_)
     | (with_reducible refine TX.thenX ?_)
     | (with_reducible refine TC.ifD ?_ ?_ <;> (intro hc; try (exfalso; omega)))
     | fail)
    · have hkl : k < l.length := by omega
      have hck := hrl l[k] (List.getElem_mem _)
      have hcs : l[k].toNat < ss.length := by omega
      have hs0 : ss[l[k].toNat] < 2 ^ 64 := hs64 _ (List.getElem_mem _)
      have hof := s_line_of (l.drop (k + 1)) (fun c hc => by have := hrl c (List.mem_of_mem_drop hc); omega)
      have hofl : ofL (l.drop (k + 1)) < 2 ^ 64 := ofL_lt (l.drop (k + 1)) (fun c hc => by have := hrl c (List.mem_of_mem_drop hc); omega)
      have hor := s_line_set_or ss[l[k].toNat] (ofL (l.drop (k + 1))) hs0 hofl
      have hlt := Nat.or_lt_two_pow hs0 hofl
      rw [drop_cons hkl, aftL, getD_lt hcs] at hinv
      generalize ss[l[k].toNat] ||| ofL (l.drop (k + 1)) = q at *
      have e : (ss.map setA).set l[k].toNat (setA q) = (ss.set l[k].toNat q).map setA := by rw [List.map_set]
      (with_reducible refine TC.draw (id := 8) true 13 14 ?_) <;> (with_reducible refine OD.st 0 ?_) <;> (with_reducible refine OD.st 1 ?_) <;> (with_reducible refine OD.st 2 ?_) <;> (with_reducible refine OD.st 3 ?_) <;> (with_reducible refine OD.st 4 ?_) <;> (with_reducible refine OD.st 5 ?_) <;> (with_reducible refine OD.st 6 ?_) <;> (with_reducible refine OD.st 7 ?_) <;> (with_reducible refine OD.st 8 ?_) <;> (with_reducible refine OD.st 9 ?_) <;> (with_reducible refine OD.c1 10 hof Fn.line_of ?_) <;> (with_reducible refine OD.c1 11 hor Fn.line_set_or ?_) <;> (with_reducible refine OD.st 12 ?_) <;> (with_reducible refine OD.a1 13 ?_; with_reducible refine OL.storeEA ?_; with_reducible refine OL.nil ?_; with_reducible refine TX.od ?_) <;> (with_reducible refine OD.dn ?_)
      repeat' (first
       | (with_reducible refine OL.st ?_)
       | (with_reducible refine TC.region ?_)
       | (with_reducible refine OL.nil ?_)
       | (with_reducible refine TX.thenN ?_)
       | (with_reducible refine TX.blkN ?_)
       | fail)
      refine TX.rd (k + 1, ss.set l[k].toNat q) [0, 1, 2] ⟨by simpa using hsl, fun u hu => ?_, by omega, hinv⟩ (by omega)
      rcases List.mem_or_eq_of_mem_set hu with h | h
      · exact hs64 u h
      · rw [h]; exact hlt
    · rw [drop_nil (by omega)] at hinv
      exact TX.rd (i + 1, ss) [0, 1, 2] ⟨hsl, hs64, by omega, hinv⟩ (by omega)
  · rw [drop_nil (by omega)] at hinv
    have hinv : aft pss.length all = ss := hinv
    rw [hinv]
    skip
    refine TX.vw 4 ?_
    exact TX.rt1 [0, 1] (.ren rfl)
end Go.Proofs
