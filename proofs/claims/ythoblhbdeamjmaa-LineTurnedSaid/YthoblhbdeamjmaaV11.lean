/- Part 11 of what the claim is proved by: lemmas on the model and walks through functions of the program; no conditions. -/
import Derived.Test.YthoblhbdeamjmaaV6
import Derived.Test.YthoblhbdeamjmaaProg
import Derived.OwnWalk
import Derived.KernelRfl
import Derived.Test.YthoblhbdeamjmaaV8
/- The table of the types of this translation, by program (wip/tools/tabgen.py). -/
namespace Go.Proofs
open Go.V
theorem Try.ty1 : TyOK Try.prog 1 ⟨.plain, 1, 8, .nilFunc⟩ := ⟨⟨_, Try.underlying1, ⟨nofun, nofun⟩⟩, by
  obtain ⟨i0, hi, hz, hs, hb⟩ := info_parts (show (Try.prog.info? 1).map (fun i => (i.zero, i.size, i.bytes)) = some (some (.nilFunc), 1, 8) by kernel_rfl)
  exact ⟨i0, hi, hs, hb, hz, rfl⟩⟩
theorem Try.ty2 : TyOK Try.prog 2 ⟨.int .i64, 1, 8, .int .i64 0⟩ := ⟨⟨_, Try.underlying2, rfl⟩, by
  obtain ⟨i0, hi, hz, hs, hb⟩ := info_parts (show (Try.prog.info? 2).map (fun i => (i.zero, i.size, i.bytes)) = some (some (.int .i64 0), 1, 8) by kernel_rfl)
  exact ⟨i0, hi, hs, hb, hz, rfl⟩⟩
theorem Try.ty3 : TyOK Try.prog 3 ⟨.int .i64, 1, 8, .int .i64 0⟩ := ⟨⟨_, Try.underlying3, rfl⟩, by
  obtain ⟨i0, hi, hz, hs, hb⟩ := info_parts (show (Try.prog.info? 3).map (fun i => (i.zero, i.size, i.bytes)) = some (some (.int .i64 0), 1, 8) by kernel_rfl)
  exact ⟨i0, hi, hs, hb, hz, rfl⟩⟩
theorem Try.ty4 : TyOK Try.prog 4 ⟨.plain, 1, 1, .bool false⟩ := ⟨⟨_, Try.underlying4, ⟨nofun, nofun⟩⟩, by
  obtain ⟨i0, hi, hz, hs, hb⟩ := info_parts (show (Try.prog.info? 4).map (fun i => (i.zero, i.size, i.bytes)) = some (some (.bool false), 1, 1) by kernel_rfl)
  exact ⟨i0, hi, hs, hb, hz, rfl⟩⟩
theorem Try.ty5 : TyOK Try.prog 5 ⟨.int .u8, 1, 1, .int .u8 0⟩ := ⟨⟨_, Try.underlying5, rfl⟩, by
  obtain ⟨i0, hi, hz, hs, hb⟩ := info_parts (show (Try.prog.info? 5).map (fun i => (i.zero, i.size, i.bytes)) = some (some (.int .u8 0), 1, 1) by kernel_rfl)
  exact ⟨i0, hi, hs, hb, hz, rfl⟩⟩
theorem Try.ty6 : TyOK Try.prog 6 ⟨.int .u8, 1, 1, .int .u8 0⟩ := ⟨⟨_, Try.underlying6, rfl⟩, by
  obtain ⟨i0, hi, hz, hs, hb⟩ := info_parts (show (Try.prog.info? 6).map (fun i => (i.zero, i.size, i.bytes)) = some (some (.int .u8 0), 1, 1) by kernel_rfl)
  exact ⟨i0, hi, hs, hb, hz, rfl⟩⟩
theorem Try.ty7 : TyOK Try.prog 7 ⟨.strct [(0, 2), (1, 3), (2, 4), (3, 6)], 4, 24, .agg #[.int .i64 0, .int .i64 0, .bool false, .int .u8 0]⟩ := ⟨⟨_, Try.underlying7, ⟨_, rfl, rfl⟩⟩, by
  obtain ⟨i0, hi, hz, hs, hb⟩ := info_parts (show (Try.prog.info? 7).map (fun i => (i.zero, i.size, i.bytes)) = some (some (.agg #[.int .i64 0, .int .i64 0, .bool false, .int .u8 0]), 4, 24) by kernel_rfl)
  exact ⟨i0, hi, hs, hb, hz, rfl⟩⟩
theorem Try.ty8 : TyOK Try.prog 8 ⟨.strct [(0, 2), (1, 3), (2, 4), (3, 6)], 4, 24, .agg #[.int .i64 0, .int .i64 0, .bool false, .int .u8 0]⟩ := ⟨⟨_, Try.underlying8, ⟨_, rfl, rfl⟩⟩, by
  obtain ⟨i0, hi, hz, hs, hb⟩ := info_parts (show (Try.prog.info? 8).map (fun i => (i.zero, i.size, i.bytes)) = some (some (.agg #[.int .i64 0, .int .i64 0, .bool false, .int .u8 0]), 4, 24) by kernel_rfl)
  exact ⟨i0, hi, hs, hb, hz, rfl⟩⟩
theorem Try.ty9 : TyOK Try.prog 9 ⟨.plain, 1, 16, .string ByteArray.empty⟩ := ⟨⟨_, Try.underlying9, ⟨nofun, nofun⟩⟩, by
  obtain ⟨i0, hi, hz, hs, hb⟩ := info_parts (show (Try.prog.info? 9).map (fun i => (i.zero, i.size, i.bytes)) = some (some (.string ByteArray.empty), 1, 16) by kernel_rfl)
  exact ⟨i0, hi, hs, hb, hz, rfl⟩⟩
theorem Try.ty10 : TyOK Try.prog 10 ⟨.plain, 1, 16, .string ByteArray.empty⟩ := ⟨⟨_, Try.underlying10, ⟨nofun, nofun⟩⟩, by
  obtain ⟨i0, hi, hz, hs, hb⟩ := info_parts (show (Try.prog.info? 10).map (fun i => (i.zero, i.size, i.bytes)) = some (some (.string ByteArray.empty), 1, 16) by kernel_rfl)
  exact ⟨i0, hi, hs, hb, hz, rfl⟩⟩
theorem Try.ty11 : TyOK Try.prog 11 ⟨.plain, 1, 16, .string ByteArray.empty⟩ := ⟨⟨_, Try.underlying11, ⟨nofun, nofun⟩⟩, by
  obtain ⟨i0, hi, hz, hs, hb⟩ := info_parts (show (Try.prog.info? 11).map (fun i => (i.zero, i.size, i.bytes)) = some (some (.string ByteArray.empty), 1, 16) by kernel_rfl)
  exact ⟨i0, hi, hs, hb, hz, rfl⟩⟩
theorem Try.ty12 : TyOK Try.prog 12 ⟨.int .u64, 1, 8, .int .u64 0⟩ := ⟨⟨_, Try.underlying12, rfl⟩, by
  obtain ⟨i0, hi, hz, hs, hb⟩ := info_parts (show (Try.prog.info? 12).map (fun i => (i.zero, i.size, i.bytes)) = some (some (.int .u64 0), 1, 8) by kernel_rfl)
  exact ⟨i0, hi, hs, hb, hz, rfl⟩⟩
theorem Try.ty13 : TyOK Try.prog 13 ⟨.strct [(0, 9), (1, 12)], 2, 24, .agg #[.string ByteArray.empty, .int .u64 0]⟩ := ⟨⟨_, Try.underlying13, ⟨_, rfl, rfl⟩⟩, by
  obtain ⟨i0, hi, hz, hs, hb⟩ := info_parts (show (Try.prog.info? 13).map (fun i => (i.zero, i.size, i.bytes)) = some (some (.agg #[.string ByteArray.empty, .int .u64 0]), 2, 24) by kernel_rfl)
  exact ⟨i0, hi, hs, hb, hz, rfl⟩⟩
theorem Try.ty14 : TyOK Try.prog 14 ⟨.strct [(0, 9), (1, 12)], 2, 24, .agg #[.string ByteArray.empty, .int .u64 0]⟩ := ⟨⟨_, Try.underlying14, ⟨_, rfl, rfl⟩⟩, by
  obtain ⟨i0, hi, hz, hs, hb⟩ := info_parts (show (Try.prog.info? 14).map (fun i => (i.zero, i.size, i.bytes)) = some (some (.agg #[.string ByteArray.empty, .int .u64 0]), 2, 24) by kernel_rfl)
  exact ⟨i0, hi, hs, hb, hz, rfl⟩⟩
theorem Try.ty15 : TyOK Try.prog 15 ⟨.ptr 117, 1, 8, .pointer none⟩ := ⟨⟨_, Try.underlying15, rfl⟩, by
  obtain ⟨i0, hi, hz, hs, hb⟩ := info_parts (show (Try.prog.info? 15).map (fun i => (i.zero, i.size, i.bytes)) = some (some (.pointer none), 1, 8) by kernel_rfl)
  exact ⟨i0, hi, hs, hb, hz, rfl⟩⟩
theorem Try.ty16 : TyOK Try.prog 16 ⟨.ptr 120, 1, 8, .pointer none⟩ := ⟨⟨_, Try.underlying16, rfl⟩, by
  obtain ⟨i0, hi, hz, hs, hb⟩ := info_parts (show (Try.prog.info? 16).map (fun i => (i.zero, i.size, i.bytes)) = some (some (.pointer none), 1, 8) by kernel_rfl)
  exact ⟨i0, hi, hs, hb, hz, rfl⟩⟩
theorem Try.ty17 : TyOK Try.prog 17 ⟨.ptr 130, 1, 8, .pointer none⟩ := ⟨⟨_, Try.underlying17, rfl⟩, by
  obtain ⟨i0, hi, hz, hs, hb⟩ := info_parts (show (Try.prog.info? 17).map (fun i => (i.zero, i.size, i.bytes)) = some (some (.pointer none), 1, 8) by kernel_rfl)
  exact ⟨i0, hi, hs, hb, hz, rfl⟩⟩
theorem Try.ty18 : TyOK Try.prog 18 ⟨.strct [(0, 17)], 1, 8, .agg #[.pointer none]⟩ := ⟨⟨_, Try.underlying18, ⟨_, rfl, rfl⟩⟩, by
  obtain ⟨i0, hi, hz, hs, hb⟩ := info_parts (show (Try.prog.info? 18).map (fun i => (i.zero, i.size, i.bytes)) = some (some (.agg #[.pointer none]), 1, 8) by kernel_rfl)
  exact ⟨i0, hi, hs, hb, hz, rfl⟩⟩
theorem Try.ty19 : TyOK Try.prog 19 ⟨.strct [(0, 17)], 1, 8, .agg #[.pointer none]⟩ := ⟨⟨_, Try.underlying19, ⟨_, rfl, rfl⟩⟩, by
  obtain ⟨i0, hi, hz, hs, hb⟩ := info_parts (show (Try.prog.info? 19).map (fun i => (i.zero, i.size, i.bytes)) = some (some (.agg #[.pointer none]), 1, 8) by kernel_rfl)
  exact ⟨i0, hi, hs, hb, hz, rfl⟩⟩
theorem Try.ty20 : TyOK Try.prog 20 ⟨.plain, 1, 16, .nilIface⟩ := ⟨⟨_, Try.underlying20, ⟨nofun, nofun⟩⟩, by
  obtain ⟨i0, hi, hz, hs, hb⟩ := info_parts (show (Try.prog.info? 20).map (fun i => (i.zero, i.size, i.bytes)) = some (some (.nilIface), 1, 16) by kernel_rfl)
  exact ⟨i0, hi, hs, hb, hz, rfl⟩⟩
theorem Try.ty21 : TyOK Try.prog 21 ⟨.int .i32, 1, 4, .int .i32 0⟩ := ⟨⟨_, Try.underlying21, rfl⟩, by
  obtain ⟨i0, hi, hz, hs, hb⟩ := info_parts (show (Try.prog.info? 21).map (fun i => (i.zero, i.size, i.bytes)) = some (some (.int .i32 0), 1, 4) by kernel_rfl)
  exact ⟨i0, hi, hs, hb, hz, rfl⟩⟩
theorem Try.ty22 : TyOK Try.prog 22 ⟨.slice 25, 1, 24, .slice none 0 0⟩ := ⟨⟨_, Try.underlying22, rfl⟩, by
  obtain ⟨i0, hi, hz, hs, hb⟩ := info_parts (show (Try.prog.info? 22).map (fun i => (i.zero, i.size, i.bytes)) = some (some (.slice none 0 0), 1, 24) by kernel_rfl)
  exact ⟨i0, hi, hs, hb, hz, rfl⟩⟩
theorem Try.ty23 : TyOK Try.prog 23 ⟨.plain, 1, 8, .nilFunc⟩ := ⟨⟨_, Try.underlying23, ⟨nofun, nofun⟩⟩, by
  obtain ⟨i0, hi, hz, hs, hb⟩ := info_parts (show (Try.prog.info? 23).map (fun i => (i.zero, i.size, i.bytes)) = some (some (.nilFunc), 1, 8) by kernel_rfl)
  exact ⟨i0, hi, hs, hb, hz, rfl⟩⟩
theorem Try.ty24 : TyOK Try.prog 24 ⟨.plain, 1, 8, .nilFunc⟩ := ⟨⟨_, Try.underlying24, ⟨nofun, nofun⟩⟩, by
  obtain ⟨i0, hi, hz, hs, hb⟩ := info_parts (show (Try.prog.info? 24).map (fun i => (i.zero, i.size, i.bytes)) = some (some (.nilFunc), 1, 8) by kernel_rfl)
  exact ⟨i0, hi, hs, hb, hz, rfl⟩⟩
theorem Try.ty25 : TyOK Try.prog 25 ⟨.slice 3, 1, 24, .slice none 0 0⟩ := ⟨⟨_, Try.underlying25, rfl⟩, by
  obtain ⟨i0, hi, hz, hs, hb⟩ := info_parts (show (Try.prog.info? 25).map (fun i => (i.zero, i.size, i.bytes)) = some (some (.slice none 0 0), 1, 24) by kernel_rfl)
  exact ⟨i0, hi, hs, hb, hz, rfl⟩⟩
theorem Try.ty26 : TyOK Try.prog 26 ⟨.int .i64, 1, 8, .int .i64 0⟩ := ⟨⟨_, Try.underlying26, rfl⟩, by
  obtain ⟨i0, hi, hz, hs, hb⟩ := info_parts (show (Try.prog.info? 26).map (fun i => (i.zero, i.size, i.bytes)) = some (some (.int .i64 0), 1, 8) by kernel_rfl)
  exact ⟨i0, hi, hs, hb, hz, rfl⟩⟩
theorem Try.ty28 : TyOK Try.prog 28 ⟨.plain, 1, 8, .nilFunc⟩ := ⟨⟨_, Try.underlying28, ⟨nofun, nofun⟩⟩, by
  obtain ⟨i0, hi, hz, hs, hb⟩ := info_parts (show (Try.prog.info? 28).map (fun i => (i.zero, i.size, i.bytes)) = some (some (.nilFunc), 1, 8) by kernel_rfl)
  exact ⟨i0, hi, hs, hb, hz, rfl⟩⟩
theorem Try.ty29 : TyOK Try.prog 29 ⟨.plain, 1, 8, .nilFunc⟩ := ⟨⟨_, Try.underlying29, ⟨nofun, nofun⟩⟩, by
  obtain ⟨i0, hi, hz, hs, hb⟩ := info_parts (show (Try.prog.info? 29).map (fun i => (i.zero, i.size, i.bytes)) = some (some (.nilFunc), 1, 8) by kernel_rfl)
  exact ⟨i0, hi, hs, hb, hz, rfl⟩⟩
theorem Try.ty30 : TyOK Try.prog 30 ⟨.plain, 1, 8, .nilFunc⟩ := ⟨⟨_, Try.underlying30, ⟨nofun, nofun⟩⟩, by
  obtain ⟨i0, hi, hz, hs, hb⟩ := info_parts (show (Try.prog.info? 30).map (fun i => (i.zero, i.size, i.bytes)) = some (some (.nilFunc), 1, 8) by kernel_rfl)
  exact ⟨i0, hi, hs, hb, hz, rfl⟩⟩
theorem Try.ty31 : TyOK Try.prog 31 ⟨.slice 5, 1, 24, .slice none 0 0⟩ := ⟨⟨_, Try.underlying31, rfl⟩, by
  obtain ⟨i0, hi, hz, hs, hb⟩ := info_parts (show (Try.prog.info? 31).map (fun i => (i.zero, i.size, i.bytes)) = some (some (.slice none 0 0), 1, 24) by kernel_rfl)
  exact ⟨i0, hi, hs, hb, hz, rfl⟩⟩
theorem Try.ty33 : TyOK Try.prog 33 ⟨.plain, 1, 8, .nilFunc⟩ := ⟨⟨_, Try.underlying33, ⟨nofun, nofun⟩⟩, by
  obtain ⟨i0, hi, hz, hs, hb⟩ := info_parts (show (Try.prog.info? 33).map (fun i => (i.zero, i.size, i.bytes)) = some (some (.nilFunc), 1, 8) by kernel_rfl)
  exact ⟨i0, hi, hs, hb, hz, rfl⟩⟩
theorem Try.ty35 : TyOK Try.prog 35 ⟨.plain, 1, 8, .nilFunc⟩ := ⟨⟨_, Try.underlying35, ⟨nofun, nofun⟩⟩, by
  obtain ⟨i0, hi, hz, hs, hb⟩ := info_parts (show (Try.prog.info? 35).map (fun i => (i.zero, i.size, i.bytes)) = some (some (.nilFunc), 1, 8) by kernel_rfl)
  exact ⟨i0, hi, hs, hb, hz, rfl⟩⟩
theorem Try.ty36 : TyOK Try.prog 36 ⟨.plain, 1, 8, .nilFunc⟩ := ⟨⟨_, Try.underlying36, ⟨nofun, nofun⟩⟩, by
  obtain ⟨i0, hi, hz, hs, hb⟩ := info_parts (show (Try.prog.info? 36).map (fun i => (i.zero, i.size, i.bytes)) = some (some (.nilFunc), 1, 8) by kernel_rfl)
  exact ⟨i0, hi, hs, hb, hz, rfl⟩⟩
theorem Try.ty37 : TyOK Try.prog 37 ⟨.plain, 1, 8, .nilFunc⟩ := ⟨⟨_, Try.underlying37, ⟨nofun, nofun⟩⟩, by
  obtain ⟨i0, hi, hz, hs, hb⟩ := info_parts (show (Try.prog.info? 37).map (fun i => (i.zero, i.size, i.bytes)) = some (some (.nilFunc), 1, 8) by kernel_rfl)
  exact ⟨i0, hi, hs, hb, hz, rfl⟩⟩
theorem Try.ty38 : TyOK Try.prog 38 ⟨.plain, 1, 8, .nilFunc⟩ := ⟨⟨_, Try.underlying38, ⟨nofun, nofun⟩⟩, by
  obtain ⟨i0, hi, hz, hs, hb⟩ := info_parts (show (Try.prog.info? 38).map (fun i => (i.zero, i.size, i.bytes)) = some (some (.nilFunc), 1, 8) by kernel_rfl)
  exact ⟨i0, hi, hs, hb, hz, rfl⟩⟩
theorem Try.ty39 : TyOK Try.prog 39 ⟨.plain, 1, 8, .nilFunc⟩ := ⟨⟨_, Try.underlying39, ⟨nofun, nofun⟩⟩, by
  obtain ⟨i0, hi, hz, hs, hb⟩ := info_parts (show (Try.prog.info? 39).map (fun i => (i.zero, i.size, i.bytes)) = some (some (.nilFunc), 1, 8) by kernel_rfl)
  exact ⟨i0, hi, hs, hb, hz, rfl⟩⟩
theorem Try.ty40 : TyOK Try.prog 40 ⟨.slice 70, 1, 24, .slice none 0 0⟩ := ⟨⟨_, Try.underlying40, rfl⟩, by
  obtain ⟨i0, hi, hz, hs, hb⟩ := info_parts (show (Try.prog.info? 40).map (fun i => (i.zero, i.size, i.bytes)) = some (some (.slice none 0 0), 1, 24) by kernel_rfl)
  exact ⟨i0, hi, hs, hb, hz, rfl⟩⟩
theorem Try.ty41 : TyOK Try.prog 41 ⟨.plain, 1, 8, .nilFunc⟩ := ⟨⟨_, Try.underlying41, ⟨nofun, nofun⟩⟩, by
  obtain ⟨i0, hi, hz, hs, hb⟩ := info_parts (show (Try.prog.info? 41).map (fun i => (i.zero, i.size, i.bytes)) = some (some (.nilFunc), 1, 8) by kernel_rfl)
  exact ⟨i0, hi, hs, hb, hz, rfl⟩⟩
theorem Try.ty42 : TyOK Try.prog 42 ⟨.slice 40, 1, 24, .slice none 0 0⟩ := ⟨⟨_, Try.underlying42, rfl⟩, by
  obtain ⟨i0, hi, hz, hs, hb⟩ := info_parts (show (Try.prog.info? 42).map (fun i => (i.zero, i.size, i.bytes)) = some (some (.slice none 0 0), 1, 24) by kernel_rfl)
  exact ⟨i0, hi, hs, hb, hz, rfl⟩⟩
theorem Try.ty44 : TyOK Try.prog 44 ⟨.plain, 1, 8, .nilFunc⟩ := ⟨⟨_, Try.underlying44, ⟨nofun, nofun⟩⟩, by
  obtain ⟨i0, hi, hz, hs, hb⟩ := info_parts (show (Try.prog.info? 44).map (fun i => (i.zero, i.size, i.bytes)) = some (some (.nilFunc), 1, 8) by kernel_rfl)
  exact ⟨i0, hi, hs, hb, hz, rfl⟩⟩
theorem Try.ty45 : TyOK Try.prog 45 ⟨.plain, 1, 8, .nilFunc⟩ := ⟨⟨_, Try.underlying45, ⟨nofun, nofun⟩⟩, by
  obtain ⟨i0, hi, hz, hs, hb⟩ := info_parts (show (Try.prog.info? 45).map (fun i => (i.zero, i.size, i.bytes)) = some (some (.nilFunc), 1, 8) by kernel_rfl)
  exact ⟨i0, hi, hs, hb, hz, rfl⟩⟩
theorem Try.ty46 : TyOK Try.prog 46 ⟨.plain, 1, 8, .nilFunc⟩ := ⟨⟨_, Try.underlying46, ⟨nofun, nofun⟩⟩, by
  obtain ⟨i0, hi, hz, hs, hb⟩ := info_parts (show (Try.prog.info? 46).map (fun i => (i.zero, i.size, i.bytes)) = some (some (.nilFunc), 1, 8) by kernel_rfl)
  exact ⟨i0, hi, hs, hb, hz, rfl⟩⟩
theorem Try.ty47 : TyOK Try.prog 47 ⟨.plain, 1, 8, .nilFunc⟩ := ⟨⟨_, Try.underlying47, ⟨nofun, nofun⟩⟩, by
  obtain ⟨i0, hi, hz, hs, hb⟩ := info_parts (show (Try.prog.info? 47).map (fun i => (i.zero, i.size, i.bytes)) = some (some (.nilFunc), 1, 8) by kernel_rfl)
  exact ⟨i0, hi, hs, hb, hz, rfl⟩⟩
theorem Try.ty48 : TyOK Try.prog 48 ⟨.plain, 1, 8, .nilFunc⟩ := ⟨⟨_, Try.underlying48, ⟨nofun, nofun⟩⟩, by
  obtain ⟨i0, hi, hz, hs, hb⟩ := info_parts (show (Try.prog.info? 48).map (fun i => (i.zero, i.size, i.bytes)) = some (some (.nilFunc), 1, 8) by kernel_rfl)
  exact ⟨i0, hi, hs, hb, hz, rfl⟩⟩
theorem Try.ty49 : TyOK Try.prog 49 ⟨.plain, 1, 8, .nilFunc⟩ := ⟨⟨_, Try.underlying49, ⟨nofun, nofun⟩⟩, by
  obtain ⟨i0, hi, hz, hs, hb⟩ := info_parts (show (Try.prog.info? 49).map (fun i => (i.zero, i.size, i.bytes)) = some (some (.nilFunc), 1, 8) by kernel_rfl)
  exact ⟨i0, hi, hs, hb, hz, rfl⟩⟩
theorem Try.ty50 : TyOK Try.prog 50 ⟨.plain, 1, 8, .nilFunc⟩ := ⟨⟨_, Try.underlying50, ⟨nofun, nofun⟩⟩, by
  obtain ⟨i0, hi, hz, hs, hb⟩ := info_parts (show (Try.prog.info? 50).map (fun i => (i.zero, i.size, i.bytes)) = some (some (.nilFunc), 1, 8) by kernel_rfl)
  exact ⟨i0, hi, hs, hb, hz, rfl⟩⟩
theorem Try.ty52 : TyOK Try.prog 52 ⟨.plain, 1, 8, .nilFunc⟩ := ⟨⟨_, Try.underlying52, ⟨nofun, nofun⟩⟩, by
  obtain ⟨i0, hi, hz, hs, hb⟩ := info_parts (show (Try.prog.info? 52).map (fun i => (i.zero, i.size, i.bytes)) = some (some (.nilFunc), 1, 8) by kernel_rfl)
  exact ⟨i0, hi, hs, hb, hz, rfl⟩⟩
theorem Try.ty53 : TyOK Try.prog 53 ⟨.plain, 1, 8, .nilFunc⟩ := ⟨⟨_, Try.underlying53, ⟨nofun, nofun⟩⟩, by
  obtain ⟨i0, hi, hz, hs, hb⟩ := info_parts (show (Try.prog.info? 53).map (fun i => (i.zero, i.size, i.bytes)) = some (some (.nilFunc), 1, 8) by kernel_rfl)
  exact ⟨i0, hi, hs, hb, hz, rfl⟩⟩
theorem Try.ty54 : TyOK Try.prog 54 ⟨.plain, 1, 8, .nilFunc⟩ := ⟨⟨_, Try.underlying54, ⟨nofun, nofun⟩⟩, by
  obtain ⟨i0, hi, hz, hs, hb⟩ := info_parts (show (Try.prog.info? 54).map (fun i => (i.zero, i.size, i.bytes)) = some (some (.nilFunc), 1, 8) by kernel_rfl)
  exact ⟨i0, hi, hs, hb, hz, rfl⟩⟩
theorem Try.ty55 : TyOK Try.prog 55 ⟨.plain, 1, 8, .nilFunc⟩ := ⟨⟨_, Try.underlying55, ⟨nofun, nofun⟩⟩, by
  obtain ⟨i0, hi, hz, hs, hb⟩ := info_parts (show (Try.prog.info? 55).map (fun i => (i.zero, i.size, i.bytes)) = some (some (.nilFunc), 1, 8) by kernel_rfl)
  exact ⟨i0, hi, hs, hb, hz, rfl⟩⟩
theorem Try.ty56 : TyOK Try.prog 56 ⟨.plain, 1, 8, .nilFunc⟩ := ⟨⟨_, Try.underlying56, ⟨nofun, nofun⟩⟩, by
  obtain ⟨i0, hi, hz, hs, hb⟩ := info_parts (show (Try.prog.info? 56).map (fun i => (i.zero, i.size, i.bytes)) = some (some (.nilFunc), 1, 8) by kernel_rfl)
  exact ⟨i0, hi, hs, hb, hz, rfl⟩⟩
theorem Try.ty57 : TyOK Try.prog 57 ⟨.plain, 1, 8, .nilFunc⟩ := ⟨⟨_, Try.underlying57, ⟨nofun, nofun⟩⟩, by
  obtain ⟨i0, hi, hz, hs, hb⟩ := info_parts (show (Try.prog.info? 57).map (fun i => (i.zero, i.size, i.bytes)) = some (some (.nilFunc), 1, 8) by kernel_rfl)
  exact ⟨i0, hi, hs, hb, hz, rfl⟩⟩
theorem Try.ty58 : TyOK Try.prog 58 ⟨.slice 4, 1, 24, .slice none 0 0⟩ := ⟨⟨_, Try.underlying58, rfl⟩, by
  obtain ⟨i0, hi, hz, hs, hb⟩ := info_parts (show (Try.prog.info? 58).map (fun i => (i.zero, i.size, i.bytes)) = some (some (.slice none 0 0), 1, 24) by kernel_rfl)
  exact ⟨i0, hi, hs, hb, hz, rfl⟩⟩
theorem Try.ty59 : TyOK Try.prog 59 ⟨.plain, 1, 8, .nilFunc⟩ := ⟨⟨_, Try.underlying59, ⟨nofun, nofun⟩⟩, by
  obtain ⟨i0, hi, hz, hs, hb⟩ := info_parts (show (Try.prog.info? 59).map (fun i => (i.zero, i.size, i.bytes)) = some (some (.nilFunc), 1, 8) by kernel_rfl)
  exact ⟨i0, hi, hs, hb, hz, rfl⟩⟩
theorem Try.ty60 : TyOK Try.prog 60 ⟨.plain, 1, 8, .nilFunc⟩ := ⟨⟨_, Try.underlying60, ⟨nofun, nofun⟩⟩, by
  obtain ⟨i0, hi, hz, hs, hb⟩ := info_parts (show (Try.prog.info? 60).map (fun i => (i.zero, i.size, i.bytes)) = some (some (.nilFunc), 1, 8) by kernel_rfl)
  exact ⟨i0, hi, hs, hb, hz, rfl⟩⟩
theorem Try.ty61 : TyOK Try.prog 61 ⟨.plain, 1, 8, .nilFunc⟩ := ⟨⟨_, Try.underlying61, ⟨nofun, nofun⟩⟩, by
  obtain ⟨i0, hi, hz, hs, hb⟩ := info_parts (show (Try.prog.info? 61).map (fun i => (i.zero, i.size, i.bytes)) = some (some (.nilFunc), 1, 8) by kernel_rfl)
  exact ⟨i0, hi, hs, hb, hz, rfl⟩⟩
theorem Try.ty62 : TyOK Try.prog 62 ⟨.plain, 1, 8, .nilFunc⟩ := ⟨⟨_, Try.underlying62, ⟨nofun, nofun⟩⟩, by
  obtain ⟨i0, hi, hz, hs, hb⟩ := info_parts (show (Try.prog.info? 62).map (fun i => (i.zero, i.size, i.bytes)) = some (some (.nilFunc), 1, 8) by kernel_rfl)
  exact ⟨i0, hi, hs, hb, hz, rfl⟩⟩
theorem Try.ty63 : TyOK Try.prog 63 ⟨.plain, 1, 8, .nilFunc⟩ := ⟨⟨_, Try.underlying63, ⟨nofun, nofun⟩⟩, by
  obtain ⟨i0, hi, hz, hs, hb⟩ := info_parts (show (Try.prog.info? 63).map (fun i => (i.zero, i.size, i.bytes)) = some (some (.nilFunc), 1, 8) by kernel_rfl)
  exact ⟨i0, hi, hs, hb, hz, rfl⟩⟩
theorem Try.ty64 : TyOK Try.prog 64 ⟨.plain, 1, 8, .nilFunc⟩ := ⟨⟨_, Try.underlying64, ⟨nofun, nofun⟩⟩, by
  obtain ⟨i0, hi, hz, hs, hb⟩ := info_parts (show (Try.prog.info? 64).map (fun i => (i.zero, i.size, i.bytes)) = some (some (.nilFunc), 1, 8) by kernel_rfl)
  exact ⟨i0, hi, hs, hb, hz, rfl⟩⟩
theorem Try.ty65 : TyOK Try.prog 65 ⟨.plain, 1, 8, .nilFunc⟩ := ⟨⟨_, Try.underlying65, ⟨nofun, nofun⟩⟩, by
  obtain ⟨i0, hi, hz, hs, hb⟩ := info_parts (show (Try.prog.info? 65).map (fun i => (i.zero, i.size, i.bytes)) = some (some (.nilFunc), 1, 8) by kernel_rfl)
  exact ⟨i0, hi, hs, hb, hz, rfl⟩⟩
theorem Try.ty66 : TyOK Try.prog 66 ⟨.plain, 1, 8, .nilFunc⟩ := ⟨⟨_, Try.underlying66, ⟨nofun, nofun⟩⟩, by
  obtain ⟨i0, hi, hz, hs, hb⟩ := info_parts (show (Try.prog.info? 66).map (fun i => (i.zero, i.size, i.bytes)) = some (some (.nilFunc), 1, 8) by kernel_rfl)
  exact ⟨i0, hi, hs, hb, hz, rfl⟩⟩
theorem Try.ty67 : TyOK Try.prog 67 ⟨.plain, 1, 8, .nilFunc⟩ := ⟨⟨_, Try.underlying67, ⟨nofun, nofun⟩⟩, by
  obtain ⟨i0, hi, hz, hs, hb⟩ := info_parts (show (Try.prog.info? 67).map (fun i => (i.zero, i.size, i.bytes)) = some (some (.nilFunc), 1, 8) by kernel_rfl)
  exact ⟨i0, hi, hs, hb, hz, rfl⟩⟩
theorem Try.ty68 : TyOK Try.prog 68 ⟨.plain, 1, 8, .nilFunc⟩ := ⟨⟨_, Try.underlying68, ⟨nofun, nofun⟩⟩, by
  obtain ⟨i0, hi, hz, hs, hb⟩ := info_parts (show (Try.prog.info? 68).map (fun i => (i.zero, i.size, i.bytes)) = some (some (.nilFunc), 1, 8) by kernel_rfl)
  exact ⟨i0, hi, hs, hb, hz, rfl⟩⟩
theorem Try.ty69 : TyOK Try.prog 69 ⟨.strct [(0, 3), (1, 3)], 2, 16, .agg #[.int .i64 0, .int .i64 0]⟩ := ⟨⟨_, Try.underlying69, ⟨_, rfl, rfl⟩⟩, by
  obtain ⟨i0, hi, hz, hs, hb⟩ := info_parts (show (Try.prog.info? 69).map (fun i => (i.zero, i.size, i.bytes)) = some (some (.agg #[.int .i64 0, .int .i64 0]), 2, 16) by kernel_rfl)
  exact ⟨i0, hi, hs, hb, hz, rfl⟩⟩
theorem Try.ty70 : TyOK Try.prog 70 ⟨.strct [(0, 3), (1, 3)], 2, 16, .agg #[.int .i64 0, .int .i64 0]⟩ := ⟨⟨_, Try.underlying70, ⟨_, rfl, rfl⟩⟩, by
  obtain ⟨i0, hi, hz, hs, hb⟩ := info_parts (show (Try.prog.info? 70).map (fun i => (i.zero, i.size, i.bytes)) = some (some (.agg #[.int .i64 0, .int .i64 0]), 2, 16) by kernel_rfl)
  exact ⟨i0, hi, hs, hb, hz, rfl⟩⟩
theorem Try.ty71 : TyOK Try.prog 71 ⟨.ptr 77, 1, 8, .pointer none⟩ := ⟨⟨_, Try.underlying71, rfl⟩, by
  obtain ⟨i0, hi, hz, hs, hb⟩ := info_parts (show (Try.prog.info? 71).map (fun i => (i.zero, i.size, i.bytes)) = some (some (.pointer none), 1, 8) by kernel_rfl)
  exact ⟨i0, hi, hs, hb, hz, rfl⟩⟩
theorem Try.ty73 : TyOK Try.prog 73 ⟨.plain, 1, 8, .nilFunc⟩ := ⟨⟨_, Try.underlying73, ⟨nofun, nofun⟩⟩, by
  obtain ⟨i0, hi, hz, hs, hb⟩ := info_parts (show (Try.prog.info? 73).map (fun i => (i.zero, i.size, i.bytes)) = some (some (.nilFunc), 1, 8) by kernel_rfl)
  exact ⟨i0, hi, hs, hb, hz, rfl⟩⟩
theorem Try.ty74 : TyOK Try.prog 74 ⟨.slice 82, 1, 24, .slice none 0 0⟩ := ⟨⟨_, Try.underlying74, rfl⟩, by
  obtain ⟨i0, hi, hz, hs, hb⟩ := info_parts (show (Try.prog.info? 74).map (fun i => (i.zero, i.size, i.bytes)) = some (some (.slice none 0 0), 1, 24) by kernel_rfl)
  exact ⟨i0, hi, hs, hb, hz, rfl⟩⟩
theorem Try.ty75 : TyOK Try.prog 75 ⟨.map 3 25, 1, 8, .map none⟩ := ⟨⟨_, Try.underlying75, rfl⟩, by
  obtain ⟨i0, hi, hz, hs, hb⟩ := info_parts (show (Try.prog.info? 75).map (fun i => (i.zero, i.size, i.bytes)) = some (some (.map none), 1, 8) by kernel_rfl)
  exact ⟨i0, hi, hs, hb, hz, rfl⟩⟩
theorem Try.ty76 : TyOK Try.prog 76 ⟨.strct [(0, 22), (1, 74), (2, 75)], 3, 56, .agg #[.slice none 0 0, .slice none 0 0, .map none]⟩ := ⟨⟨_, Try.underlying76, ⟨_, rfl, rfl⟩⟩, by
  obtain ⟨i0, hi, hz, hs, hb⟩ := info_parts (show (Try.prog.info? 76).map (fun i => (i.zero, i.size, i.bytes)) = some (some (.agg #[.slice none 0 0, .slice none 0 0, .map none]), 3, 56) by kernel_rfl)
  exact ⟨i0, hi, hs, hb, hz, rfl⟩⟩
theorem Try.ty77 : TyOK Try.prog 77 ⟨.strct [(0, 22), (1, 74), (2, 75)], 3, 56, .agg #[.slice none 0 0, .slice none 0 0, .map none]⟩ := ⟨⟨_, Try.underlying77, ⟨_, rfl, rfl⟩⟩, by
  obtain ⟨i0, hi, hz, hs, hb⟩ := info_parts (show (Try.prog.info? 77).map (fun i => (i.zero, i.size, i.bytes)) = some (some (.agg #[.slice none 0 0, .slice none 0 0, .map none]), 3, 56) by kernel_rfl)
  exact ⟨i0, hi, hs, hb, hz, rfl⟩⟩
theorem Try.ty79 : TyOK Try.prog 79 ⟨.plain, 1, 8, .nilFunc⟩ := ⟨⟨_, Try.underlying79, ⟨nofun, nofun⟩⟩, by
  obtain ⟨i0, hi, hz, hs, hb⟩ := info_parts (show (Try.prog.info? 79).map (fun i => (i.zero, i.size, i.bytes)) = some (some (.nilFunc), 1, 8) by kernel_rfl)
  exact ⟨i0, hi, hs, hb, hz, rfl⟩⟩
theorem Try.ty80 : TyOK Try.prog 80 ⟨.int .u64, 1, 8, .int .u64 0⟩ := ⟨⟨_, Try.underlying80, rfl⟩, by
  obtain ⟨i0, hi, hz, hs, hb⟩ := info_parts (show (Try.prog.info? 80).map (fun i => (i.zero, i.size, i.bytes)) = some (some (.int .u64 0), 1, 8) by kernel_rfl)
  exact ⟨i0, hi, hs, hb, hz, rfl⟩⟩
theorem Try.ty81 : TyOK Try.prog 81 ⟨.array 1 80, 1, 8, .agg #[.int .u64 0]⟩ := ⟨⟨_, Try.underlying81, rfl⟩, by
  obtain ⟨i0, hi, hz, hs, hb⟩ := info_parts (show (Try.prog.info? 81).map (fun i => (i.zero, i.size, i.bytes)) = some (some (.agg #[.int .u64 0]), 1, 8) by kernel_rfl)
  exact ⟨i0, hi, hs, hb, hz, rfl⟩⟩
theorem Try.ty82 : TyOK Try.prog 82 ⟨.array 1 80, 1, 8, .agg #[.int .u64 0]⟩ := ⟨⟨_, Try.underlying82, rfl⟩, by
  obtain ⟨i0, hi, hz, hs, hb⟩ := info_parts (show (Try.prog.info? 82).map (fun i => (i.zero, i.size, i.bytes)) = some (some (.agg #[.int .u64 0]), 1, 8) by kernel_rfl)
  exact ⟨i0, hi, hs, hb, hz, rfl⟩⟩
theorem Try.ty83 : TyOK Try.prog 83 ⟨.plain, 1, 8, .nilFunc⟩ := ⟨⟨_, Try.underlying83, ⟨nofun, nofun⟩⟩, by
  obtain ⟨i0, hi, hz, hs, hb⟩ := info_parts (show (Try.prog.info? 83).map (fun i => (i.zero, i.size, i.bytes)) = some (some (.nilFunc), 1, 8) by kernel_rfl)
  exact ⟨i0, hi, hs, hb, hz, rfl⟩⟩
theorem Try.ty84 : TyOK Try.prog 84 ⟨.plain, 1, 8, .nilFunc⟩ := ⟨⟨_, Try.underlying84, ⟨nofun, nofun⟩⟩, by
  obtain ⟨i0, hi, hz, hs, hb⟩ := info_parts (show (Try.prog.info? 84).map (fun i => (i.zero, i.size, i.bytes)) = some (some (.nilFunc), 1, 8) by kernel_rfl)
  exact ⟨i0, hi, hs, hb, hz, rfl⟩⟩
theorem Try.ty85 : TyOK Try.prog 85 ⟨.plain, 1, 8, .nilFunc⟩ := ⟨⟨_, Try.underlying85, ⟨nofun, nofun⟩⟩, by
  obtain ⟨i0, hi, hz, hs, hb⟩ := info_parts (show (Try.prog.info? 85).map (fun i => (i.zero, i.size, i.bytes)) = some (some (.nilFunc), 1, 8) by kernel_rfl)
  exact ⟨i0, hi, hs, hb, hz, rfl⟩⟩
theorem Try.ty86 : TyOK Try.prog 86 ⟨.plain, 1, 8, .nilFunc⟩ := ⟨⟨_, Try.underlying86, ⟨nofun, nofun⟩⟩, by
  obtain ⟨i0, hi, hz, hs, hb⟩ := info_parts (show (Try.prog.info? 86).map (fun i => (i.zero, i.size, i.bytes)) = some (some (.nilFunc), 1, 8) by kernel_rfl)
  exact ⟨i0, hi, hs, hb, hz, rfl⟩⟩
theorem Try.ty87 : TyOK Try.prog 87 ⟨.plain, 1, 8, .nilFunc⟩ := ⟨⟨_, Try.underlying87, ⟨nofun, nofun⟩⟩, by
  obtain ⟨i0, hi, hz, hs, hb⟩ := info_parts (show (Try.prog.info? 87).map (fun i => (i.zero, i.size, i.bytes)) = some (some (.nilFunc), 1, 8) by kernel_rfl)
  exact ⟨i0, hi, hs, hb, hz, rfl⟩⟩
theorem Try.ty88 : TyOK Try.prog 88 ⟨.plain, 1, 8, .nilFunc⟩ := ⟨⟨_, Try.underlying88, ⟨nofun, nofun⟩⟩, by
  obtain ⟨i0, hi, hz, hs, hb⟩ := info_parts (show (Try.prog.info? 88).map (fun i => (i.zero, i.size, i.bytes)) = some (some (.nilFunc), 1, 8) by kernel_rfl)
  exact ⟨i0, hi, hs, hb, hz, rfl⟩⟩
theorem Try.ty89 : TyOK Try.prog 89 ⟨.plain, 1, 8, .nilFunc⟩ := ⟨⟨_, Try.underlying89, ⟨nofun, nofun⟩⟩, by
  obtain ⟨i0, hi, hz, hs, hb⟩ := info_parts (show (Try.prog.info? 89).map (fun i => (i.zero, i.size, i.bytes)) = some (some (.nilFunc), 1, 8) by kernel_rfl)
  exact ⟨i0, hi, hs, hb, hz, rfl⟩⟩
theorem Try.ty90 : TyOK Try.prog 90 ⟨.plain, 1, 8, .nilFunc⟩ := ⟨⟨_, Try.underlying90, ⟨nofun, nofun⟩⟩, by
  obtain ⟨i0, hi, hz, hs, hb⟩ := info_parts (show (Try.prog.info? 90).map (fun i => (i.zero, i.size, i.bytes)) = some (some (.nilFunc), 1, 8) by kernel_rfl)
  exact ⟨i0, hi, hs, hb, hz, rfl⟩⟩
theorem Try.ty91 : TyOK Try.prog 91 ⟨.plain, 1, 8, .nilFunc⟩ := ⟨⟨_, Try.underlying91, ⟨nofun, nofun⟩⟩, by
  obtain ⟨i0, hi, hz, hs, hb⟩ := info_parts (show (Try.prog.info? 91).map (fun i => (i.zero, i.size, i.bytes)) = some (some (.nilFunc), 1, 8) by kernel_rfl)
  exact ⟨i0, hi, hs, hb, hz, rfl⟩⟩
theorem Try.ty92 : TyOK Try.prog 92 ⟨.plain, 1, 8, .nilFunc⟩ := ⟨⟨_, Try.underlying92, ⟨nofun, nofun⟩⟩, by
  obtain ⟨i0, hi, hz, hs, hb⟩ := info_parts (show (Try.prog.info? 92).map (fun i => (i.zero, i.size, i.bytes)) = some (some (.nilFunc), 1, 8) by kernel_rfl)
  exact ⟨i0, hi, hs, hb, hz, rfl⟩⟩
theorem Try.ty93 : TyOK Try.prog 93 ⟨.plain, 1, 8, .nilFunc⟩ := ⟨⟨_, Try.underlying93, ⟨nofun, nofun⟩⟩, by
  obtain ⟨i0, hi, hz, hs, hb⟩ := info_parts (show (Try.prog.info? 93).map (fun i => (i.zero, i.size, i.bytes)) = some (some (.nilFunc), 1, 8) by kernel_rfl)
  exact ⟨i0, hi, hs, hb, hz, rfl⟩⟩
theorem Try.ty94 : TyOK Try.prog 94 ⟨.plain, 1, 8, .nilFunc⟩ := ⟨⟨_, Try.underlying94, ⟨nofun, nofun⟩⟩, by
  obtain ⟨i0, hi, hz, hs, hb⟩ := info_parts (show (Try.prog.info? 94).map (fun i => (i.zero, i.size, i.bytes)) = some (some (.nilFunc), 1, 8) by kernel_rfl)
  exact ⟨i0, hi, hs, hb, hz, rfl⟩⟩
theorem Try.ty96 : TyOK Try.prog 96 ⟨.plain, 1, 8, .nilFunc⟩ := ⟨⟨_, Try.underlying96, ⟨nofun, nofun⟩⟩, by
  obtain ⟨i0, hi, hz, hs, hb⟩ := info_parts (show (Try.prog.info? 96).map (fun i => (i.zero, i.size, i.bytes)) = some (some (.nilFunc), 1, 8) by kernel_rfl)
  exact ⟨i0, hi, hs, hb, hz, rfl⟩⟩
theorem Try.ty97 : TyOK Try.prog 97 ⟨.plain, 1, 8, .nilFunc⟩ := ⟨⟨_, Try.underlying97, ⟨nofun, nofun⟩⟩, by
  obtain ⟨i0, hi, hz, hs, hb⟩ := info_parts (show (Try.prog.info? 97).map (fun i => (i.zero, i.size, i.bytes)) = some (some (.nilFunc), 1, 8) by kernel_rfl)
  exact ⟨i0, hi, hs, hb, hz, rfl⟩⟩
theorem Try.ty98 : TyOK Try.prog 98 ⟨.plain, 1, 8, .nilFunc⟩ := ⟨⟨_, Try.underlying98, ⟨nofun, nofun⟩⟩, by
  obtain ⟨i0, hi, hz, hs, hb⟩ := info_parts (show (Try.prog.info? 98).map (fun i => (i.zero, i.size, i.bytes)) = some (some (.nilFunc), 1, 8) by kernel_rfl)
  exact ⟨i0, hi, hs, hb, hz, rfl⟩⟩
theorem Try.ty99 : TyOK Try.prog 99 ⟨.plain, 1, 8, .nilFunc⟩ := ⟨⟨_, Try.underlying99, ⟨nofun, nofun⟩⟩, by
  obtain ⟨i0, hi, hz, hs, hb⟩ := info_parts (show (Try.prog.info? 99).map (fun i => (i.zero, i.size, i.bytes)) = some (some (.nilFunc), 1, 8) by kernel_rfl)
  exact ⟨i0, hi, hs, hb, hz, rfl⟩⟩
theorem Try.ty100 : TyOK Try.prog 100 ⟨.plain, 1, 8, .nilFunc⟩ := ⟨⟨_, Try.underlying100, ⟨nofun, nofun⟩⟩, by
  obtain ⟨i0, hi, hz, hs, hb⟩ := info_parts (show (Try.prog.info? 100).map (fun i => (i.zero, i.size, i.bytes)) = some (some (.nilFunc), 1, 8) by kernel_rfl)
  exact ⟨i0, hi, hs, hb, hz, rfl⟩⟩
theorem Try.ty101 : TyOK Try.prog 101 ⟨.plain, 1, 8, .nilFunc⟩ := ⟨⟨_, Try.underlying101, ⟨nofun, nofun⟩⟩, by
  obtain ⟨i0, hi, hz, hs, hb⟩ := info_parts (show (Try.prog.info? 101).map (fun i => (i.zero, i.size, i.bytes)) = some (some (.nilFunc), 1, 8) by kernel_rfl)
  exact ⟨i0, hi, hs, hb, hz, rfl⟩⟩
theorem Try.ty102 : TyOK Try.prog 102 ⟨.plain, 1, 8, .nilFunc⟩ := ⟨⟨_, Try.underlying102, ⟨nofun, nofun⟩⟩, by
  obtain ⟨i0, hi, hz, hs, hb⟩ := info_parts (show (Try.prog.info? 102).map (fun i => (i.zero, i.size, i.bytes)) = some (some (.nilFunc), 1, 8) by kernel_rfl)
  exact ⟨i0, hi, hs, hb, hz, rfl⟩⟩
theorem Try.ty103 : TyOK Try.prog 103 ⟨.plain, 1, 8, .nilFunc⟩ := ⟨⟨_, Try.underlying103, ⟨nofun, nofun⟩⟩, by
  obtain ⟨i0, hi, hz, hs, hb⟩ := info_parts (show (Try.prog.info? 103).map (fun i => (i.zero, i.size, i.bytes)) = some (some (.nilFunc), 1, 8) by kernel_rfl)
  exact ⟨i0, hi, hs, hb, hz, rfl⟩⟩
theorem Try.ty104 : TyOK Try.prog 104 ⟨.plain, 1, 8, .nilFunc⟩ := ⟨⟨_, Try.underlying104, ⟨nofun, nofun⟩⟩, by
  obtain ⟨i0, hi, hz, hs, hb⟩ := info_parts (show (Try.prog.info? 104).map (fun i => (i.zero, i.size, i.bytes)) = some (some (.nilFunc), 1, 8) by kernel_rfl)
  exact ⟨i0, hi, hs, hb, hz, rfl⟩⟩
theorem Try.ty105 : TyOK Try.prog 105 ⟨.plain, 1, 8, .nilFunc⟩ := ⟨⟨_, Try.underlying105, ⟨nofun, nofun⟩⟩, by
  obtain ⟨i0, hi, hz, hs, hb⟩ := info_parts (show (Try.prog.info? 105).map (fun i => (i.zero, i.size, i.bytes)) = some (some (.nilFunc), 1, 8) by kernel_rfl)
  exact ⟨i0, hi, hs, hb, hz, rfl⟩⟩
theorem Try.ty106 : TyOK Try.prog 106 ⟨.plain, 1, 8, .nilFunc⟩ := ⟨⟨_, Try.underlying106, ⟨nofun, nofun⟩⟩, by
  obtain ⟨i0, hi, hz, hs, hb⟩ := info_parts (show (Try.prog.info? 106).map (fun i => (i.zero, i.size, i.bytes)) = some (some (.nilFunc), 1, 8) by kernel_rfl)
  exact ⟨i0, hi, hs, hb, hz, rfl⟩⟩
theorem Try.ty107 : TyOK Try.prog 107 ⟨.plain, 1, 8, .nilFunc⟩ := ⟨⟨_, Try.underlying107, ⟨nofun, nofun⟩⟩, by
  obtain ⟨i0, hi, hz, hs, hb⟩ := info_parts (show (Try.prog.info? 107).map (fun i => (i.zero, i.size, i.bytes)) = some (some (.nilFunc), 1, 8) by kernel_rfl)
  exact ⟨i0, hi, hs, hb, hz, rfl⟩⟩
theorem Try.ty108 : TyOK Try.prog 108 ⟨.plain, 1, 8, .nilFunc⟩ := ⟨⟨_, Try.underlying108, ⟨nofun, nofun⟩⟩, by
  obtain ⟨i0, hi, hz, hs, hb⟩ := info_parts (show (Try.prog.info? 108).map (fun i => (i.zero, i.size, i.bytes)) = some (some (.nilFunc), 1, 8) by kernel_rfl)
  exact ⟨i0, hi, hs, hb, hz, rfl⟩⟩
theorem Try.ty109 : TyOK Try.prog 109 ⟨.plain, 1, 8, .nilFunc⟩ := ⟨⟨_, Try.underlying109, ⟨nofun, nofun⟩⟩, by
  obtain ⟨i0, hi, hz, hs, hb⟩ := info_parts (show (Try.prog.info? 109).map (fun i => (i.zero, i.size, i.bytes)) = some (some (.nilFunc), 1, 8) by kernel_rfl)
  exact ⟨i0, hi, hs, hb, hz, rfl⟩⟩
theorem Try.ty110 : TyOK Try.prog 110 ⟨.plain, 1, 8, .nilFunc⟩ := ⟨⟨_, Try.underlying110, ⟨nofun, nofun⟩⟩, by
  obtain ⟨i0, hi, hz, hs, hb⟩ := info_parts (show (Try.prog.info? 110).map (fun i => (i.zero, i.size, i.bytes)) = some (some (.nilFunc), 1, 8) by kernel_rfl)
  exact ⟨i0, hi, hs, hb, hz, rfl⟩⟩
theorem Try.ty111 : TyOK Try.prog 111 ⟨.array 19 4, 19, 19, .agg #[.bool false, .bool false, .bool false, .bool false, .bool false, .bool false, .bool false, .bool false, .bool false, .bool false, .bool false, .bool false, .bool false, .bool false, .bool false, .bool false, .bool false, .bool false, .bool false]⟩ := ⟨⟨_, Try.underlying111, rfl⟩, by
  obtain ⟨i0, hi, hz, hs, hb⟩ := info_parts (show (Try.prog.info? 111).map (fun i => (i.zero, i.size, i.bytes)) = some (some (.agg #[.bool false, .bool false, .bool false, .bool false, .bool false, .bool false, .bool false, .bool false, .bool false, .bool false, .bool false, .bool false, .bool false, .bool false, .bool false, .bool false, .bool false, .bool false, .bool false]), 19, 19) by kernel_rfl)
  exact ⟨i0, hi, hs, hb, hz, rfl⟩⟩
theorem Try.ty112 : TyOK Try.prog 112 ⟨.plain, 1, 8, .nilFunc⟩ := ⟨⟨_, Try.underlying112, ⟨nofun, nofun⟩⟩, by
  obtain ⟨i0, hi, hz, hs, hb⟩ := info_parts (show (Try.prog.info? 112).map (fun i => (i.zero, i.size, i.bytes)) = some (some (.nilFunc), 1, 8) by kernel_rfl)
  exact ⟨i0, hi, hs, hb, hz, rfl⟩⟩
theorem Try.ty113 : TyOK Try.prog 113 ⟨.plain, 1, 8, .nilFunc⟩ := ⟨⟨_, Try.underlying113, ⟨nofun, nofun⟩⟩, by
  obtain ⟨i0, hi, hz, hs, hb⟩ := info_parts (show (Try.prog.info? 113).map (fun i => (i.zero, i.size, i.bytes)) = some (some (.nilFunc), 1, 8) by kernel_rfl)
  exact ⟨i0, hi, hs, hb, hz, rfl⟩⟩
theorem Try.ty114 : TyOK Try.prog 114 ⟨.plain, 1, 8, .nilFunc⟩ := ⟨⟨_, Try.underlying114, ⟨nofun, nofun⟩⟩, by
  obtain ⟨i0, hi, hz, hs, hb⟩ := info_parts (show (Try.prog.info? 114).map (fun i => (i.zero, i.size, i.bytes)) = some (some (.nilFunc), 1, 8) by kernel_rfl)
  exact ⟨i0, hi, hs, hb, hz, rfl⟩⟩
theorem Try.ty115 : TyOK Try.prog 115 ⟨.plain, 1, 8, .nilFunc⟩ := ⟨⟨_, Try.underlying115, ⟨nofun, nofun⟩⟩, by
  obtain ⟨i0, hi, hz, hs, hb⟩ := info_parts (show (Try.prog.info? 115).map (fun i => (i.zero, i.size, i.bytes)) = some (some (.nilFunc), 1, 8) by kernel_rfl)
  exact ⟨i0, hi, hs, hb, hz, rfl⟩⟩
theorem Try.ty116 : TyOK Try.prog 116 ⟨.strct [(0, 17), (1, 17), (2, 17), (3, 9)], 4, 40, .agg #[.pointer none, .pointer none, .pointer none, .string ByteArray.empty]⟩ := ⟨⟨_, Try.underlying116, ⟨_, rfl, rfl⟩⟩, by
  obtain ⟨i0, hi, hz, hs, hb⟩ := info_parts (show (Try.prog.info? 116).map (fun i => (i.zero, i.size, i.bytes)) = some (some (.agg #[.pointer none, .pointer none, .pointer none, .string ByteArray.empty]), 4, 40) by kernel_rfl)
  exact ⟨i0, hi, hs, hb, hz, rfl⟩⟩
theorem Try.ty117 : TyOK Try.prog 117 ⟨.strct [(0, 17), (1, 17), (2, 17), (3, 9)], 4, 40, .agg #[.pointer none, .pointer none, .pointer none, .string ByteArray.empty]⟩ := ⟨⟨_, Try.underlying117, ⟨_, rfl, rfl⟩⟩, by
  obtain ⟨i0, hi, hz, hs, hb⟩ := info_parts (show (Try.prog.info? 117).map (fun i => (i.zero, i.size, i.bytes)) = some (some (.agg #[.pointer none, .pointer none, .pointer none, .string ByteArray.empty]), 4, 40) by kernel_rfl)
  exact ⟨i0, hi, hs, hb, hz, rfl⟩⟩
theorem Try.ty118 : TyOK Try.prog 118 ⟨.array 0 16, 0, 0, .agg #[]⟩ := ⟨⟨_, Try.underlying118, rfl⟩, by
  obtain ⟨i0, hi, hz, hs, hb⟩ := info_parts (show (Try.prog.info? 118).map (fun i => (i.zero, i.size, i.bytes)) = some (some (.agg #[]), 0, 0) by kernel_rfl)
  exact ⟨i0, hi, hs, hb, hz, rfl⟩⟩
theorem Try.ty119 : TyOK Try.prog 119 ⟨.strct [(0, 118)], 0, 0, .agg #[]⟩ := ⟨⟨_, Try.underlying119, ⟨_, rfl, rfl⟩⟩, by
  obtain ⟨i0, hi, hz, hs, hb⟩ := info_parts (show (Try.prog.info? 119).map (fun i => (i.zero, i.size, i.bytes)) = some (some (.agg #[]), 0, 0) by kernel_rfl)
  exact ⟨i0, hi, hs, hb, hz, rfl⟩⟩
theorem Try.ty120 : TyOK Try.prog 120 ⟨.strct [(0, 118)], 0, 0, .agg #[]⟩ := ⟨⟨_, Try.underlying120, ⟨_, rfl, rfl⟩⟩, by
  obtain ⟨i0, hi, hz, hs, hb⟩ := info_parts (show (Try.prog.info? 120).map (fun i => (i.zero, i.size, i.bytes)) = some (some (.agg #[]), 0, 0) by kernel_rfl)
  exact ⟨i0, hi, hs, hb, hz, rfl⟩⟩
theorem Try.ty121 : TyOK Try.prog 121 ⟨.plain, 1, 8, .nilFunc⟩ := ⟨⟨_, Try.underlying121, ⟨nofun, nofun⟩⟩, by
  obtain ⟨i0, hi, hz, hs, hb⟩ := info_parts (show (Try.prog.info? 121).map (fun i => (i.zero, i.size, i.bytes)) = some (some (.nilFunc), 1, 8) by kernel_rfl)
  exact ⟨i0, hi, hs, hb, hz, rfl⟩⟩
theorem Try.ty122 : TyOK Try.prog 122 ⟨.int .u32, 1, 4, .int .u32 0⟩ := ⟨⟨_, Try.underlying122, rfl⟩, by
  obtain ⟨i0, hi, hz, hs, hb⟩ := info_parts (show (Try.prog.info? 122).map (fun i => (i.zero, i.size, i.bytes)) = some (some (.int .u32 0), 1, 4) by kernel_rfl)
  exact ⟨i0, hi, hs, hb, hz, rfl⟩⟩
theorem Try.ty123 : TyOK Try.prog 123 ⟨.int .u8, 1, 1, .int .u8 0⟩ := ⟨⟨_, Try.underlying123, rfl⟩, by
  obtain ⟨i0, hi, hz, hs, hb⟩ := info_parts (show (Try.prog.info? 123).map (fun i => (i.zero, i.size, i.bytes)) = some (some (.int .u8 0), 1, 1) by kernel_rfl)
  exact ⟨i0, hi, hs, hb, hz, rfl⟩⟩
theorem Try.ty124 : TyOK Try.prog 124 ⟨.int .u8, 1, 1, .int .u8 0⟩ := ⟨⟨_, Try.underlying124, rfl⟩, by
  obtain ⟨i0, hi, hz, hs, hb⟩ := info_parts (show (Try.prog.info? 124).map (fun i => (i.zero, i.size, i.bytes)) = some (some (.int .u8 0), 1, 1) by kernel_rfl)
  exact ⟨i0, hi, hs, hb, hz, rfl⟩⟩
theorem Try.ty125 : TyOK Try.prog 125 ⟨.plain, 1, 8, .nilFunc⟩ := ⟨⟨_, Try.underlying125, ⟨nofun, nofun⟩⟩, by
  obtain ⟨i0, hi, hz, hs, hb⟩ := info_parts (show (Try.prog.info? 125).map (fun i => (i.zero, i.size, i.bytes)) = some (some (.nilFunc), 1, 8) by kernel_rfl)
  exact ⟨i0, hi, hs, hb, hz, rfl⟩⟩
theorem Try.ty126 : TyOK Try.prog 126 ⟨.ptr 5, 1, 8, .pointer none⟩ := ⟨⟨_, Try.underlying126, rfl⟩, by
  obtain ⟨i0, hi, hz, hs, hb⟩ := info_parts (show (Try.prog.info? 126).map (fun i => (i.zero, i.size, i.bytes)) = some (some (.pointer none), 1, 8) by kernel_rfl)
  exact ⟨i0, hi, hs, hb, hz, rfl⟩⟩
theorem Try.ty127 : TyOK Try.prog 127 ⟨.int .i32, 1, 4, .int .i32 0⟩ := ⟨⟨_, Try.underlying127, rfl⟩, by
  obtain ⟨i0, hi, hz, hs, hb⟩ := info_parts (show (Try.prog.info? 127).map (fun i => (i.zero, i.size, i.bytes)) = some (some (.int .i32 0), 1, 4) by kernel_rfl)
  exact ⟨i0, hi, hs, hb, hz, rfl⟩⟩
theorem Try.ty128 : TyOK Try.prog 128 ⟨.int .i32, 1, 4, .int .i32 0⟩ := ⟨⟨_, Try.underlying128, rfl⟩, by
  obtain ⟨i0, hi, hz, hs, hb⟩ := info_parts (show (Try.prog.info? 128).map (fun i => (i.zero, i.size, i.bytes)) = some (some (.int .i32 0), 1, 4) by kernel_rfl)
  exact ⟨i0, hi, hs, hb, hz, rfl⟩⟩
theorem Try.ty129 : TyOK Try.prog 129 ⟨.strct [(0, 12), (1, 12), (2, 122), (3, 123), (4, 5), (5, 5), (6, 124), (7, 125), (8, 126), (9, 127), (10, 128)], 11, 48, .agg #[.int .u64 0, .int .u64 0, .int .u32 0, .int .u8 0, .int .u8 0, .int .u8 0, .int .u8 0, .nilFunc, .pointer none, .int .i32 0, .int .i32 0]⟩ := ⟨⟨_, Try.underlying129, ⟨_, rfl, rfl⟩⟩, by
  obtain ⟨i0, hi, hz, hs, hb⟩ := info_parts (show (Try.prog.info? 129).map (fun i => (i.zero, i.size, i.bytes)) = some (some (.agg #[.int .u64 0, .int .u64 0, .int .u32 0, .int .u8 0, .int .u8 0, .int .u8 0, .int .u8 0, .nilFunc, .pointer none, .int .i32 0, .int .i32 0]), 11, 48) by kernel_rfl)
  exact ⟨i0, hi, hs, hb, hz, rfl⟩⟩
theorem Try.ty130 : TyOK Try.prog 130 ⟨.strct [(0, 12), (1, 12), (2, 122), (3, 123), (4, 5), (5, 5), (6, 124), (7, 125), (8, 126), (9, 127), (10, 128)], 11, 48, .agg #[.int .u64 0, .int .u64 0, .int .u32 0, .int .u8 0, .int .u8 0, .int .u8 0, .int .u8 0, .nilFunc, .pointer none, .int .i32 0, .int .i32 0]⟩ := ⟨⟨_, Try.underlying130, ⟨_, rfl, rfl⟩⟩, by
  obtain ⟨i0, hi, hz, hs, hb⟩ := info_parts (show (Try.prog.info? 130).map (fun i => (i.zero, i.size, i.bytes)) = some (some (.agg #[.int .u64 0, .int .u64 0, .int .u32 0, .int .u8 0, .int .u8 0, .int .u8 0, .int .u8 0, .nilFunc, .pointer none, .int .i32 0, .int .i32 0]), 11, 48) by kernel_rfl)
  exact ⟨i0, hi, hs, hb, hz, rfl⟩⟩
theorem Try.ty131 : TyOK Try.prog 131 ⟨.plain, 1, 8, .pointer none⟩ := ⟨⟨_, Try.underlying131, ⟨nofun, nofun⟩⟩, by
  obtain ⟨i0, hi, hz, hs, hb⟩ := info_parts (show (Try.prog.info? 131).map (fun i => (i.zero, i.size, i.bytes)) = some (some (.pointer none), 1, 8) by kernel_rfl)
  exact ⟨i0, hi, hs, hb, hz, rfl⟩⟩
def Try.tabL : List (Option TyE) := [
  none,
  some ⟨.plain, 1, 8, .nilFunc⟩,
  some ⟨.int .i64, 1, 8, .int .i64 0⟩,
  some ⟨.int .i64, 1, 8, .int .i64 0⟩,
  some ⟨.plain, 1, 1, .bool false⟩,
  some ⟨.int .u8, 1, 1, .int .u8 0⟩,
  some ⟨.int .u8, 1, 1, .int .u8 0⟩,
  some ⟨.strct [(0, 2), (1, 3), (2, 4), (3, 6)], 4, 24, .agg #[.int .i64 0, .int .i64 0, .bool false, .int .u8 0]⟩,
  some ⟨.strct [(0, 2), (1, 3), (2, 4), (3, 6)], 4, 24, .agg #[.int .i64 0, .int .i64 0, .bool false, .int .u8 0]⟩,
  some ⟨.plain, 1, 16, .string ByteArray.empty⟩,
  some ⟨.plain, 1, 16, .string ByteArray.empty⟩,
  some ⟨.plain, 1, 16, .string ByteArray.empty⟩,
  some ⟨.int .u64, 1, 8, .int .u64 0⟩,
  some ⟨.strct [(0, 9), (1, 12)], 2, 24, .agg #[.string ByteArray.empty, .int .u64 0]⟩,
  some ⟨.strct [(0, 9), (1, 12)], 2, 24, .agg #[.string ByteArray.empty, .int .u64 0]⟩,
  some ⟨.ptr 117, 1, 8, .pointer none⟩,
  some ⟨.ptr 120, 1, 8, .pointer none⟩,
  some ⟨.ptr 130, 1, 8, .pointer none⟩,
  some ⟨.strct [(0, 17)], 1, 8, .agg #[.pointer none]⟩,
  some ⟨.strct [(0, 17)], 1, 8, .agg #[.pointer none]⟩,
  some ⟨.plain, 1, 16, .nilIface⟩,
  some ⟨.int .i32, 1, 4, .int .i32 0⟩,
  some ⟨.slice 25, 1, 24, .slice none 0 0⟩,
  some ⟨.plain, 1, 8, .nilFunc⟩,
  some ⟨.plain, 1, 8, .nilFunc⟩,
  some ⟨.slice 3, 1, 24, .slice none 0 0⟩,
  some ⟨.int .i64, 1, 8, .int .i64 0⟩,
  none,
  some ⟨.plain, 1, 8, .nilFunc⟩,
  some ⟨.plain, 1, 8, .nilFunc⟩,
  some ⟨.plain, 1, 8, .nilFunc⟩,
  some ⟨.slice 5, 1, 24, .slice none 0 0⟩,
  none,
  some ⟨.plain, 1, 8, .nilFunc⟩,
  none,
  some ⟨.plain, 1, 8, .nilFunc⟩,
  some ⟨.plain, 1, 8, .nilFunc⟩,
  some ⟨.plain, 1, 8, .nilFunc⟩,
  some ⟨.plain, 1, 8, .nilFunc⟩,
  some ⟨.plain, 1, 8, .nilFunc⟩,
  some ⟨.slice 70, 1, 24, .slice none 0 0⟩,
  some ⟨.plain, 1, 8, .nilFunc⟩,
  some ⟨.slice 40, 1, 24, .slice none 0 0⟩,
  none,
  some ⟨.plain, 1, 8, .nilFunc⟩,
  some ⟨.plain, 1, 8, .nilFunc⟩,
  some ⟨.plain, 1, 8, .nilFunc⟩,
  some ⟨.plain, 1, 8, .nilFunc⟩,
  some ⟨.plain, 1, 8, .nilFunc⟩,
  some ⟨.plain, 1, 8, .nilFunc⟩,
  some ⟨.plain, 1, 8, .nilFunc⟩,
  none,
  some ⟨.plain, 1, 8, .nilFunc⟩,
  some ⟨.plain, 1, 8, .nilFunc⟩,
  some ⟨.plain, 1, 8, .nilFunc⟩,
  some ⟨.plain, 1, 8, .nilFunc⟩,
  some ⟨.plain, 1, 8, .nilFunc⟩,
  some ⟨.plain, 1, 8, .nilFunc⟩,
  some ⟨.slice 4, 1, 24, .slice none 0 0⟩,
  some ⟨.plain, 1, 8, .nilFunc⟩,
  some ⟨.plain, 1, 8, .nilFunc⟩,
  some ⟨.plain, 1, 8, .nilFunc⟩,
  some ⟨.plain, 1, 8, .nilFunc⟩,
  some ⟨.plain, 1, 8, .nilFunc⟩,
  some ⟨.plain, 1, 8, .nilFunc⟩,
  some ⟨.plain, 1, 8, .nilFunc⟩,
  some ⟨.plain, 1, 8, .nilFunc⟩,
  some ⟨.plain, 1, 8, .nilFunc⟩,
  some ⟨.plain, 1, 8, .nilFunc⟩,
  some ⟨.strct [(0, 3), (1, 3)], 2, 16, .agg #[.int .i64 0, .int .i64 0]⟩,
  some ⟨.strct [(0, 3), (1, 3)], 2, 16, .agg #[.int .i64 0, .int .i64 0]⟩,
  some ⟨.ptr 77, 1, 8, .pointer none⟩,
  none,
  some ⟨.plain, 1, 8, .nilFunc⟩,
  some ⟨.slice 82, 1, 24, .slice none 0 0⟩,
  some ⟨.map 3 25, 1, 8, .map none⟩,
  some ⟨.strct [(0, 22), (1, 74), (2, 75)], 3, 56, .agg #[.slice none 0 0, .slice none 0 0, .map none]⟩,
  some ⟨.strct [(0, 22), (1, 74), (2, 75)], 3, 56, .agg #[.slice none 0 0, .slice none 0 0, .map none]⟩,
  none,
  some ⟨.plain, 1, 8, .nilFunc⟩,
  some ⟨.int .u64, 1, 8, .int .u64 0⟩,
  some ⟨.array 1 80, 1, 8, .agg #[.int .u64 0]⟩,
  some ⟨.array 1 80, 1, 8, .agg #[.int .u64 0]⟩,
  some ⟨.plain, 1, 8, .nilFunc⟩,
  some ⟨.plain, 1, 8, .nilFunc⟩,
  some ⟨.plain, 1, 8, .nilFunc⟩,
  some ⟨.plain, 1, 8, .nilFunc⟩,
  some ⟨.plain, 1, 8, .nilFunc⟩,
  some ⟨.plain, 1, 8, .nilFunc⟩,
  some ⟨.plain, 1, 8, .nilFunc⟩,
  some ⟨.plain, 1, 8, .nilFunc⟩,
  some ⟨.plain, 1, 8, .nilFunc⟩,
  some ⟨.plain, 1, 8, .nilFunc⟩,
  some ⟨.plain, 1, 8, .nilFunc⟩,
  some ⟨.plain, 1, 8, .nilFunc⟩,
  none,
  some ⟨.plain, 1, 8, .nilFunc⟩,
  some ⟨.plain, 1, 8, .nilFunc⟩,
  some ⟨.plain, 1, 8, .nilFunc⟩,
  some ⟨.plain, 1, 8, .nilFunc⟩,
  some ⟨.plain, 1, 8, .nilFunc⟩,
  some ⟨.plain, 1, 8, .nilFunc⟩,
  some ⟨.plain, 1, 8, .nilFunc⟩,
  some ⟨.plain, 1, 8, .nilFunc⟩,
  some ⟨.plain, 1, 8, .nilFunc⟩,
  some ⟨.plain, 1, 8, .nilFunc⟩,
  some ⟨.plain, 1, 8, .nilFunc⟩,
  some ⟨.plain, 1, 8, .nilFunc⟩,
  some ⟨.plain, 1, 8, .nilFunc⟩,
  some ⟨.plain, 1, 8, .nilFunc⟩,
  some ⟨.plain, 1, 8, .nilFunc⟩,
  some ⟨.array 19 4, 19, 19, .agg #[.bool false, .bool false, .bool false, .bool false, .bool false, .bool false, .bool false, .bool false, .bool false, .bool false, .bool false, .bool false, .bool false, .bool false, .bool false, .bool false, .bool false, .bool false, .bool false]⟩,
  some ⟨.plain, 1, 8, .nilFunc⟩,
  some ⟨.plain, 1, 8, .nilFunc⟩,
  some ⟨.plain, 1, 8, .nilFunc⟩,
  some ⟨.plain, 1, 8, .nilFunc⟩,
  some ⟨.strct [(0, 17), (1, 17), (2, 17), (3, 9)], 4, 40, .agg #[.pointer none, .pointer none, .pointer none, .string ByteArray.empty]⟩,
  some ⟨.strct [(0, 17), (1, 17), (2, 17), (3, 9)], 4, 40, .agg #[.pointer none, .pointer none, .pointer none, .string ByteArray.empty]⟩,
  some ⟨.array 0 16, 0, 0, .agg #[]⟩,
  some ⟨.strct [(0, 118)], 0, 0, .agg #[]⟩,
  some ⟨.strct [(0, 118)], 0, 0, .agg #[]⟩,
  some ⟨.plain, 1, 8, .nilFunc⟩,
  some ⟨.int .u32, 1, 4, .int .u32 0⟩,
  some ⟨.int .u8, 1, 1, .int .u8 0⟩,
  some ⟨.int .u8, 1, 1, .int .u8 0⟩,
  some ⟨.plain, 1, 8, .nilFunc⟩,
  some ⟨.ptr 5, 1, 8, .pointer none⟩,
  some ⟨.int .i32, 1, 4, .int .i32 0⟩,
  some ⟨.int .i32, 1, 4, .int .i32 0⟩,
  some ⟨.strct [(0, 12), (1, 12), (2, 122), (3, 123), (4, 5), (5, 5), (6, 124), (7, 125), (8, 126), (9, 127), (10, 128)], 11, 48, .agg #[.int .u64 0, .int .u64 0, .int .u32 0, .int .u8 0, .int .u8 0, .int .u8 0, .int .u8 0, .nilFunc, .pointer none, .int .i32 0, .int .i32 0]⟩,
  some ⟨.strct [(0, 12), (1, 12), (2, 122), (3, 123), (4, 5), (5, 5), (6, 124), (7, 125), (8, 126), (9, 127), (10, 128)], 11, 48, .agg #[.int .u64 0, .int .u64 0, .int .u32 0, .int .u8 0, .int .u8 0, .int .u8 0, .int .u8 0, .nilFunc, .pointer none, .int .i32 0, .int .i32 0]⟩,
  some ⟨.plain, 1, 8, .pointer none⟩]
def Try.tab : Tab := fun t => nthT Try.tabL t
theorem Try.tabOK : TabOK Try.prog Try.tab := allOK_tab (L := Try.tabL) ⟨Try.ty1, Try.ty2, Try.ty3, Try.ty4, Try.ty5, Try.ty6, Try.ty7, Try.ty8, Try.ty9, Try.ty10, Try.ty11, Try.ty12, Try.ty13, Try.ty14, Try.ty15, Try.ty16, Try.ty17, Try.ty18, Try.ty19, Try.ty20, Try.ty21, Try.ty22, Try.ty23, Try.ty24, Try.ty25, Try.ty26, Try.ty28, Try.ty29, Try.ty30, Try.ty31, Try.ty33, Try.ty35, Try.ty36, Try.ty37, Try.ty38, Try.ty39, Try.ty40, Try.ty41, Try.ty42, Try.ty44, Try.ty45, Try.ty46, Try.ty47, Try.ty48, Try.ty49, Try.ty50, Try.ty52, Try.ty53, Try.ty54, Try.ty55, Try.ty56, Try.ty57, Try.ty58, Try.ty59, Try.ty60, Try.ty61, Try.ty62, Try.ty63, Try.ty64, Try.ty65, Try.ty66, Try.ty67, Try.ty68, Try.ty69, Try.ty70, Try.ty71, Try.ty73, Try.ty74, Try.ty75, Try.ty76, Try.ty77, Try.ty79, Try.ty80, Try.ty81, Try.ty82, Try.ty83, Try.ty84, Try.ty85, Try.ty86, Try.ty87, Try.ty88, Try.ty89, Try.ty90, Try.ty91, Try.ty92, Try.ty93, Try.ty94, Try.ty96, Try.ty97, Try.ty98, Try.ty99, Try.ty100, Try.ty101, Try.ty102, Try.ty103, Try.ty104, Try.ty105, Try.ty106, Try.ty107, Try.ty108, Try.ty109, Try.ty110, Try.ty111, Try.ty112, Try.ty113, Try.ty114, Try.ty115, Try.ty116, Try.ty117, Try.ty118, Try.ty119, Try.ty120, Try.ty121, Try.ty122, Try.ty123, Try.ty124, Try.ty125, Try.ty126, Try.ty127, Try.ty128, Try.ty129, Try.ty130, Try.ty131, trivial⟩
abbrev Tc.int64 : Nat := 2
abbrev Tc.int : Nat := 3
abbrev Tc.bool : Nat := 4
abbrev Tc.uint8 : Nat := 5
abbrev Tc.internal_abi_BoundsErrorCode : Nat := 6
abbrev Tc.runtime_boundsError : Nat := 8
abbrev Tc.string : Nat := 9
abbrev Tc.runtime_errorString : Nat := 10
abbrev Tc.runtime_plainError : Nat := 11
abbrev Tc.uintptr : Nat := 12
abbrev Tc.runtime_errorAddressString : Nat := 14
abbrev Tc.Pruntime_TypeAssertionError : Nat := 15
abbrev Tc.Pruntime_PanicNilError : Nat := 16
abbrev Tc.Pabi_Type : Nat := 17
abbrev Tc.internal_runtime_maps_unhashableTypeError : Nat := 19
abbrev Tc.int32 : Nat := 21
abbrev Tc.LLint : Nat := 22
abbrev Tc.Lint : Nat := 25
abbrev Tc.api_Errno : Nat := 26
abbrev Tc.Luint8 : Nat := 31
abbrev Tc.Lapi_LineSpan : Nat := 40
abbrev Tc.LLapi_LineSpan : Nat := 42
abbrev Tc.Lbool : Nat := 58
abbrev Tc.api_LineSpan : Nat := 70
abbrev Tc.Pline_graph : Nat := 71
abbrev Tc.Lline_set : Nat := 74
abbrev Tc.map_int_Lint : Nat := 75
abbrev Tc.line_graph : Nat := 77
abbrev Tc.uint64 : Nat := 80
abbrev Tc.line_set : Nat := 82
abbrev Tc.iter_Seq_int : Nat := 89
abbrev Tc.runtime_TypeAssertionError : Nat := 117
abbrev Tc.runtime_PanicNilError : Nat := 120
abbrev Tc.uint32 : Nat := 122
abbrev Tc.internal_abi_TFlag : Nat := 123
abbrev Tc.internal_abi_Kind : Nat := 124
abbrev Tc.Puint8 : Nat := 126
abbrev Tc.internal_abi_NameOff : Nat := 127
abbrev Tc.internal_abi_TypeOff : Nat := 128
abbrev Tc.internal_abi_Type : Nat := 130
abbrev Tc.unsafe_Pointer : Nat := 131
end Go.Proofs
/- Names for the functions of this translation, by program (wip/tools/fngen.py). -/
namespace Go.Proofs
abbrev Fc.law03_LineLins : Nat := 3  -- consort/consortlaw03.LineLins
theorem Fn.law03_LineLins : Try.prog.funcs[3]? = some Try.f3 := Try.func3
abbrev Fc.law03_LineTurned : Nat := 4  -- consort/consortlaw03.LineTurned
theorem Fn.law03_LineTurned : Try.prog.funcs[4]? = some Try.f4 := Try.func4
abbrev Fc.law03_LineHeirs : Nat := 5  -- consort/consortlaw03.LineHeirs
theorem Fn.law03_LineHeirs : Try.prog.funcs[5]? = some Try.f5 := Try.func5
abbrev Fc.law03_LineSpans : Nat := 6  -- consort/consortlaw03.LineSpans
theorem Fn.law03_LineSpans : Try.prog.funcs[6]? = some Try.f6 := Try.func6
abbrev Fc.law03_LineMore : Nat := 7  -- consort/consortlaw03.LineMore
theorem Fn.law03_LineMore : Try.prog.funcs[7]? = some Try.f7 := Try.func7
abbrev Fc.law03_LineConflicts : Nat := 8  -- consort/consortlaw03.LineConflicts
theorem Fn.law03_LineConflicts : Try.prog.funcs[8]? = some Try.f8 := Try.func8
abbrev Fc.law03_LineCommon : Nat := 9  -- consort/consortlaw03.LineCommon
theorem Fn.law03_LineCommon : Try.prog.funcs[9]? = some Try.f9 := Try.func9
abbrev Fc.law03_LineAgrees : Nat := 10  -- consort/consortlaw03.LineAgrees
theorem Fn.law03_LineAgrees : Try.prog.funcs[10]? = some Try.f10 := Try.func10
abbrev Fc.law03_LineTests : Nat := 11  -- consort/consortlaw03.LineTests
theorem Fn.law03_LineTests : Try.prog.funcs[11]? = some Try.f11 := Try.func11
abbrev Fc.law03_LineBelows : Nat := 12  -- consort/consortlaw03.LineBelows
theorem Fn.law03_LineBelows : Try.prog.funcs[12]? = some Try.f12 := Try.func12
abbrev Fc.law03_LineAgreed : Nat := 13  -- consort/consortlaw03.LineAgreed
theorem Fn.law03_LineAgreed : Try.prog.funcs[13]? = some Try.f13 := Try.func13
abbrev Fc.law03_LineOrders : Nat := 14  -- consort/consortlaw03.LineOrders
theorem Fn.law03_LineOrders : Try.prog.funcs[14]? = some Try.f14 := Try.func14
abbrev Fc.law03_LineKnown : Nat := 15  -- consort/consortlaw03.LineKnown
theorem Fn.law03_LineKnown : Try.prog.funcs[15]? = some Try.f15 := Try.func15
abbrev Fc.law03_wide : Nat := 16  -- consort/consortlaw03.wide
theorem Fn.law03_wide : Try.prog.funcs[16]? = some Try.f16 := Try.func16
abbrev Fc.law03_works : Nat := 17  -- consort/consortlaw03.works
theorem Fn.law03_works : Try.prog.funcs[17]? = some Try.f17 := Try.func17
abbrev Fc.line_Lin : Nat := 18  -- consort/line.Lin
theorem Fn.line_Lin : Try.prog.funcs[18]? = some Try.f18 := Try.func18
abbrev Fc.ref03_Lin : Nat := 19  -- consort/consortref03.Lin
theorem Fn.ref03_Lin : Try.prog.funcs[19]? = some Try.f19 := Try.func19
abbrev Fc.ref03_Same : Nat := 20  -- consort/consortref03.Same
theorem Fn.ref03_Same : Try.prog.funcs[20]? = some Try.f20 := Try.func20
abbrev Fc.law03_formed : Nat := 21  -- consort/consortlaw03.formed
theorem Fn.law03_formed : Try.prog.funcs[21]? = some Try.f21 := Try.func21
abbrev Fc.law03_Turned : Nat := 22  -- consort/consortlaw03.Turned
theorem Fn.law03_Turned : Try.prog.funcs[22]? = some Try.f22 := Try.func22
abbrev Fc.line_Below : Nat := 23  -- consort/line.Below
theorem Fn.line_Below : Try.prog.funcs[23]? = some Try.f23 := Try.func23
abbrev Fc.law03_large : Nat := 24  -- consort/consortlaw03.large
theorem Fn.law03_large : Try.prog.funcs[24]? = some Try.f24 := Try.func24
abbrev Fc.line_Heirs : Nat := 25  -- consort/line.Heirs
theorem Fn.line_Heirs : Try.prog.funcs[25]? = some Try.f25 := Try.func25
abbrev Fc.ref03_Heirs : Nat := 26  -- consort/consortref03.Heirs
theorem Fn.ref03_Heirs : Try.prog.funcs[26]? = some Try.f26 := Try.func26
abbrev Fc.line_Least : Nat := 27  -- consort/line.Least
theorem Fn.line_Least : Try.prog.funcs[27]? = some Try.f27 := Try.func27
abbrev Fc.ref03_Least : Nat := 28  -- consort/consortref03.Least
theorem Fn.ref03_Least : Try.prog.funcs[28]? = some Try.f28 := Try.func28
abbrev Fc.line_Number : Nat := 29  -- consort/line.Number
theorem Fn.line_Number : Try.prog.funcs[29]? = some Try.f29 := Try.func29
abbrev Fc.ref03_Number : Nat := 30  -- consort/consortref03.Number
theorem Fn.ref03_Number : Try.prog.funcs[30]? = some Try.f30 := Try.func30
abbrev Fc.line_Spans : Nat := 31  -- consort/line.Spans
theorem Fn.line_Spans : Try.prog.funcs[31]? = some Try.f31 := Try.func31
abbrev Fc.ref03_Spans : Nat := 32  -- consort/consortref03.Spans
theorem Fn.ref03_Spans : Try.prog.funcs[32]? = some Try.f32 := Try.func32
abbrev Fc.line_In : Nat := 33  -- consort/line.In
theorem Fn.line_In : Try.prog.funcs[33]? = some Try.f33 := Try.func33
abbrev Fc.ref03_In : Nat := 34  -- consort/consortref03.In
theorem Fn.ref03_In : Try.prog.funcs[34]? = some Try.f34 := Try.func34
abbrev Fc.ref03_SameSpans : Nat := 35  -- consort/consortref03.SameSpans
theorem Fn.ref03_SameSpans : Try.prog.funcs[35]? = some Try.f35 := Try.func35
abbrev Fc.slices_Contains_Lint_int : Nat := 36  -- slices.Contains[[]int,int]
theorem Fn.slices_Contains_Lint_int : Try.prog.funcs[36]? = some Try.f36 := Try.func36
abbrev Fc.slices_Clone_LLint_Lint : Nat := 37  -- slices.Clone[[][]int,[]int]
theorem Fn.slices_Clone_LLint_Lint : Try.prog.funcs[37]? = some Try.f37 := Try.func37
abbrev Fc.slices_Equal_Lint_int : Nat := 38  -- slices.Equal[[]int,int]
theorem Fn.slices_Equal_Lint_int : Try.prog.funcs[38]? = some Try.f38 := Try.func38
abbrev Fc.line_Conflict : Nat := 39  -- consort/line.Conflict
theorem Fn.line_Conflict : Try.prog.funcs[39]? = some Try.f39 := Try.func39
abbrev Fc.ref03_Conflict : Nat := 40  -- consort/consortref03.Conflict
theorem Fn.ref03_Conflict : Try.prog.funcs[40]? = some Try.f40 := Try.func40
abbrev Fc.line_IsRing : Nat := 41  -- consort/line.IsRing
theorem Fn.line_IsRing : Try.prog.funcs[41]? = some Try.f41 := Try.func41
abbrev Fc.ref03_IsRing : Nat := 42  -- consort/consortref03.IsRing
theorem Fn.ref03_IsRing : Try.prog.funcs[42]? = some Try.f42 := Try.func42
abbrev Fc.slices_IsSorted_Lint_int : Nat := 43  -- slices.IsSorted[[]int,int]
theorem Fn.slices_IsSorted_Lint_int : Try.prog.funcs[43]? = some Try.f43 := Try.func43
abbrev Fc.slices_ContainsFunc_Lint_int : Nat := 44  -- slices.ContainsFunc[[]int,int]
theorem Fn.slices_ContainsFunc_Lint_int : Try.prog.funcs[44]? = some Try.f44 := Try.func44
abbrev Fc.law03_LineCommon_1 : Nat := 45  -- consort/consortlaw03.LineCommon$1
theorem Fn.law03_LineCommon_1 : Try.prog.funcs[45]? = some Try.f45 := Try.func45
abbrev Fc.law03_LineCommon_2 : Nat := 46  -- consort/consortlaw03.LineCommon$2
theorem Fn.law03_LineCommon_2 : Try.prog.funcs[46]? = some Try.f46 := Try.func46
abbrev Fc.law03_above : Nat := 47  -- consort/consortlaw03.above
theorem Fn.law03_above : Try.prog.funcs[47]? = some Try.f47 := Try.func47
abbrev Fc.law03_LineCommon_3 : Nat := 48  -- consort/consortlaw03.LineCommon$3
theorem Fn.law03_LineCommon_3 : Try.prog.funcs[48]? = some Try.f48 := Try.func48
abbrev Fc.law03_LineCommon_4 : Nat := 49  -- consort/consortlaw03.LineCommon$4
theorem Fn.law03_LineCommon_4 : Try.prog.funcs[49]? = some Try.f49 := Try.func49
abbrev Fc.law03_LineCommon_5 : Nat := 50  -- consort/consortlaw03.LineCommon$5
theorem Fn.law03_LineCommon_5 : Try.prog.funcs[50]? = some Try.f50 := Try.func50
abbrev Fc.line_Agrees : Nat := 51  -- consort/line.Agrees
theorem Fn.line_Agrees : Try.prog.funcs[51]? = some Try.f51 := Try.func51
abbrev Fc.ref03_Agrees : Nat := 52  -- consort/consortref03.Agrees
theorem Fn.ref03_Agrees : Try.prog.funcs[52]? = some Try.f52 := Try.func52
abbrev Fc.law03_whole : Nat := 53  -- consort/consortlaw03.whole
theorem Fn.law03_whole : Try.prog.funcs[53]? = some Try.f53 := Try.func53
abbrev Fc.slices_ContainsFunc_LLint_Lint : Nat := 54  -- slices.ContainsFunc[[][]int,[]int]
theorem Fn.slices_ContainsFunc_LLint_Lint : Try.prog.funcs[54]? = some Try.f54 := Try.func54
abbrev Fc.law03_LineTests_1 : Nat := 55  -- consort/consortlaw03.LineTests$1
theorem Fn.law03_LineTests_1 : Try.prog.funcs[55]? = some Try.f55 := Try.func55
abbrev Fc.law03_apart : Nat := 56  -- consort/consortlaw03.apart
theorem Fn.law03_apart : Try.prog.funcs[56]? = some Try.f56 := Try.func56
abbrev Fc.ref03_Below : Nat := 57  -- consort/consortref03.Below
theorem Fn.ref03_Below : Try.prog.funcs[57]? = some Try.f57 := Try.func57
abbrev Fc.line_Above : Nat := 58  -- consort/line.Above
theorem Fn.line_Above : Try.prog.funcs[58]? = some Try.f58 := Try.func58
abbrev Fc.ref03_Above : Nat := 59  -- consort/consortref03.Above
theorem Fn.ref03_Above : Try.prog.funcs[59]? = some Try.f59 := Try.func59
abbrev Fc.line_Under : Nat := 60  -- consort/line.Under
theorem Fn.line_Under : Try.prog.funcs[60]? = some Try.f60 := Try.func60
abbrev Fc.ref03_Under : Nat := 61  -- consort/consortref03.Under
theorem Fn.ref03_Under : Try.prog.funcs[61]? = some Try.f61 := Try.func61
abbrev Fc.line_Check : Nat := 62  -- consort/line.Check
theorem Fn.line_Check : Try.prog.funcs[62]? = some Try.f62 := Try.func62
abbrev Fc.ref03_Check : Nat := 63  -- consort/consortref03.Check
theorem Fn.ref03_Check : Try.prog.funcs[63]? = some Try.f63 := Try.func63
abbrev Fc.slices_Clone_Lint_int : Nat := 64  -- slices.Clone[[]int,int]
theorem Fn.slices_Clone_Lint_int : Try.prog.funcs[64]? = some Try.f64 := Try.func64
abbrev Fc.law03_within : Nat := 65  -- consort/consortlaw03.within
theorem Fn.law03_within : Try.prog.funcs[65]? = some Try.f65 := Try.func65
abbrev Fc.law03_fails : Nat := 66  -- consort/consortlaw03.fails
theorem Fn.law03_fails : Try.prog.funcs[66]? = some Try.f66 := Try.func66
abbrev Fc.law03_Small : Nat := 67  -- consort/consortlaw03.Small
theorem Fn.law03_Small : Try.prog.funcs[67]? = some Try.f67 := Try.func67
abbrev Fc.law03_Twice : Nat := 68  -- consort/consortlaw03.Twice
theorem Fn.law03_Twice : Try.prog.funcs[68]? = some Try.f68 := Try.func68
abbrev Fc.line_open : Nat := 69  -- consort/line.open
theorem Fn.line_open : Try.prog.funcs[69]? = some Try.f69 := Try.func69
abbrev Fc.ref03_Good : Nat := 70  -- consort/consortref03.Good
theorem Fn.ref03_Good : Try.prog.funcs[70]? = some Try.f70 := Try.func70
abbrev Fc.ref03_class : Nat := 71  -- consort/consortref03.class
theorem Fn.ref03_class : Try.prog.funcs[71]? = some Try.f71 := Try.func71
abbrev Fc.ref03_LinOf : Nat := 72  -- consort/consortref03.LinOf
theorem Fn.ref03_LinOf : Try.prog.funcs[72]? = some Try.f72 := Try.func72
abbrev Fc.law03_Turned_1 : Nat := 73  -- consort/consortlaw03.Turned$1
theorem Fn.law03_Turned_1 : Try.prog.funcs[73]? = some Try.f73 := Try.func73
abbrev Fc.line_set_has : Nat := 74  -- (consort/line.set).has
theorem Fn.line_set_has : Try.prog.funcs[74]? = some Try.f74 := Try.func74
abbrev Fc.line_asked : Nat := 75  -- consort/line.asked
theorem Fn.line_asked : Try.prog.funcs[75]? = some Try.f75 := Try.func75
abbrev Fc.line_of : Nat := 76  -- consort/line.of
theorem Fn.line_of : Try.prog.funcs[76]? = some Try.f76 := Try.func76
abbrev Fc.line_graph_all : Nat := 77  -- (*consort/line.graph).all
theorem Fn.line_graph_all : Try.prog.funcs[77]? = some Try.f77 := Try.func77
abbrev Fc.line_Heirs_1 : Nat := 78  -- consort/line.Heirs$1
theorem Fn.line_Heirs_1 : Try.prog.funcs[78]? = some Try.f78 := Try.func78
abbrev Fc.line_set_and : Nat := 79  -- (consort/line.set).and
theorem Fn.line_set_and : Try.prog.funcs[79]? = some Try.f79 := Try.func79
abbrev Fc.ref03_classes : Nat := 80  -- consort/consortref03.classes
theorem Fn.ref03_classes : Try.prog.funcs[80]? = some Try.f80 := Try.func80
abbrev Fc.ref03_HeirsOf : Nat := 81  -- consort/consortref03.HeirsOf
theorem Fn.ref03_HeirsOf : Try.prog.funcs[81]? = some Try.f81 := Try.func81
abbrev Fc.line_Least_1 : Nat := 82  -- consort/line.Least$1
theorem Fn.line_Least_1 : Try.prog.funcs[82]? = some Try.f82 := Try.func82
abbrev Fc.line_Least_2 : Nat := 83  -- consort/line.Least$2
theorem Fn.line_Least_2 : Try.prog.funcs[83]? = some Try.f83 := Try.func83
abbrev Fc.line_Least_2_1 : Nat := 84  -- consort/line.Least$2$1
theorem Fn.line_Least_2_1 : Try.prog.funcs[84]? = some Try.f84 := Try.func84
abbrev Fc.ref03_LeastOf : Nat := 85  -- consort/consortref03.LeastOf
theorem Fn.ref03_LeastOf : Try.prog.funcs[85]? = some Try.f85 := Try.func85
abbrev Fc.line_graph_tree : Nat := 86  -- (*consort/line.graph).tree
theorem Fn.line_graph_tree : Try.prog.funcs[86]? = some Try.f86 := Try.func86
abbrev Fc.ref03_laid : Nat := 87  -- consort/consortref03.laid
theorem Fn.ref03_laid : Try.prog.funcs[87]? = some Try.f87 := Try.func87
abbrev Fc.line_Spans_1 : Nat := 88  -- consort/line.Spans$1
theorem Fn.line_Spans_1 : Try.prog.funcs[88]? = some Try.f88 := Try.func88
abbrev Fc.ref03_Has : Nat := 89  -- consort/consortref03.Has
theorem Fn.ref03_Has : Try.prog.funcs[89]? = some Try.f89 := Try.func89
abbrev Fc.ref03_BelowOf : Nat := 90  -- consort/consortref03.BelowOf
theorem Fn.ref03_BelowOf : Try.prog.funcs[90]? = some Try.f90 := Try.func90
abbrev Fc.slices_ContainsFunc_Lapi_LineSpan_api_LineSpan : Nat := 91  -- slices.ContainsFunc[[]consort/api.LineSpan,consort/api.LineSpan]
theorem Fn.slices_ContainsFunc_Lapi_LineSpan_api_LineSpan : Try.prog.funcs[91]? = some Try.f91 := Try.func91
abbrev Fc.line_In_1 : Nat := 92  -- consort/line.In$1
theorem Fn.line_In_1 : Try.prog.funcs[92]? = some Try.f92 := Try.func92
abbrev Fc.slices_Index_Lint_int : Nat := 93  -- slices.Index[[]int,int]
theorem Fn.slices_Index_Lint_int : Try.prog.funcs[93]? = some Try.f93 := Try.func93
abbrev Fc.line_graph_lists : Nat := 94  -- (*consort/line.graph).lists
theorem Fn.line_graph_lists : Try.prog.funcs[94]? = some Try.f94 := Try.func94
abbrev Fc.line_graph_after : Nat := 95  -- (*consort/line.graph).after
theorem Fn.line_graph_after : Try.prog.funcs[95]? = some Try.f95 := Try.func95
abbrev Fc.line_rings : Nat := 96  -- consort/line.rings
theorem Fn.line_rings : Try.prog.funcs[96]? = some Try.f96 := Try.func96
abbrev Fc.ref03_OrdersOf : Nat := 97  -- consort/consortref03.OrdersOf
theorem Fn.ref03_OrdersOf : Try.prog.funcs[97]? = some Try.f97 := Try.func97
abbrev Fc.ref03_lists : Nat := 98  -- consort/consortref03.lists
theorem Fn.ref03_lists : Try.prog.funcs[98]? = some Try.f98 := Try.func98
abbrev Fc.ref03_grown : Nat := 99  -- consort/consortref03.grown
theorem Fn.ref03_grown : Try.prog.funcs[99]? = some Try.f99 := Try.func99
abbrev Fc.ref03_ListsOf : Nat := 100  -- consort/consortref03.ListsOf
theorem Fn.ref03_ListsOf : Try.prog.funcs[100]? = some Try.f100 := Try.func100
abbrev Fc.ref03_ring : Nat := 101  -- consort/consortref03.ring
theorem Fn.ref03_ring : Try.prog.funcs[101]? = some Try.f101 := Try.func101
abbrev Fc.cmp_Less_int : Nat := 102  -- cmp.Less[int]
theorem Fn.cmp_Less_int : Try.prog.funcs[102]? = some Try.f102 := Try.func102
abbrev Fc.slices_IndexFunc_Lint_int : Nat := 103  -- slices.IndexFunc[[]int,int]
theorem Fn.slices_IndexFunc_Lint_int : Try.prog.funcs[103]? = some Try.f103 := Try.func103
abbrev Fc.line_set_with : Nat := 104  -- (consort/line.set).with
theorem Fn.line_set_with : Try.prog.funcs[104]? = some Try.f104 := Try.func104
abbrev Fc.ref03_AboveOf : Nat := 105  -- consort/consortref03.AboveOf
theorem Fn.ref03_AboveOf : Try.prog.funcs[105]? = some Try.f105 := Try.func105
abbrev Fc.ref03_precedes : Nat := 106  -- consort/consortref03.precedes
theorem Fn.ref03_precedes : Try.prog.funcs[106]? = some Try.f106 := Try.func106
abbrev Fc.slices_Equal_Lbool_bool : Nat := 107  -- slices.Equal[[]bool,bool]
theorem Fn.slices_Equal_Lbool_bool : Try.prog.funcs[107]? = some Try.f107 := Try.func107
abbrev Fc.slices_IndexFunc_LLint_Lint : Nat := 108  -- slices.IndexFunc[[][]int,[]int]
theorem Fn.slices_IndexFunc_LLint_Lint : Try.prog.funcs[108]? = some Try.f108 := Try.func108
abbrev Fc.line_Under_1 : Nat := 109  -- consort/line.Under$1
theorem Fn.line_Under_1 : Try.prog.funcs[109]? = some Try.f109 := Try.func109
abbrev Fc.ref03_UnderOf : Nat := 110  -- consort/consortref03.UnderOf
theorem Fn.ref03_UnderOf : Try.prog.funcs[110]? = some Try.f110 := Try.func110
abbrev Fc.line_fine : Nat := 111  -- consort/line.fine
theorem Fn.line_fine : Try.prog.funcs[111]? = some Try.f111 := Try.func111
abbrev Fc.law03_own : Nat := 112  -- consort/consortlaw03.own
theorem Fn.law03_own : Try.prog.funcs[112]? = some Try.f112 := Try.func112
abbrev Fc.law03_turned : Nat := 113  -- consort/consortlaw03.turned
theorem Fn.law03_turned : Try.prog.funcs[113]? = some Try.f113 := Try.func113
abbrev Fc.line_set_or : Nat := 114  -- (consort/line.set).or
theorem Fn.line_set_or : Try.prog.funcs[114]? = some Try.f114 := Try.func114
abbrev Fc.line_graph_order : Nat := 115  -- (*consort/line.graph).order
theorem Fn.line_graph_order : Try.prog.funcs[115]? = some Try.f115 := Try.func115
abbrev Fc.line_keep_int : Nat := 116  -- consort/line.keep[int]
theorem Fn.line_keep_int : Try.prog.funcs[116]? = some Try.f116 := Try.func116
abbrev Fc.line_graph_tree_1 : Nat := 117  -- (*consort/line.graph).tree$1
theorem Fn.line_graph_tree_1 : Try.prog.funcs[117]? = some Try.f117 := Try.func117
abbrev Fc.ref03_stem : Nat := 118  -- consort/consortref03.stem
theorem Fn.ref03_stem : Try.prog.funcs[118]? = some Try.f118 := Try.func118
abbrev Fc.slices_IndexFunc_Lapi_LineSpan_api_LineSpan : Nat := 119  -- slices.IndexFunc[[]consort/api.LineSpan,consort/api.LineSpan]
theorem Fn.slices_IndexFunc_Lapi_LineSpan_api_LineSpan : Try.prog.funcs[119]? = some Try.f119 := Try.func119
abbrev Fc.line_bare : Nat := 120  -- consort/line.bare
theorem Fn.line_bare : Try.prog.funcs[120]? = some Try.f120 := Try.func120
abbrev Fc.ref03_merge : Nat := 121  -- consort/consortref03.merge
theorem Fn.ref03_merge : Try.prog.funcs[121]? = some Try.f121 := Try.func121
abbrev Fc.ref03_parents : Nat := 122  -- consort/consortref03.parents
theorem Fn.ref03_parents : Try.prog.funcs[122]? = some Try.f122 := Try.func122
abbrev Fc.ref03_without : Nat := 123  -- consort/consortref03.without
theorem Fn.ref03_without : Try.prog.funcs[123]? = some Try.f123 := Try.func123
abbrev Fc.cmp_isNaN_int : Nat := 124  -- cmp.isNaN[int]
theorem Fn.cmp_isNaN_int : Try.prog.funcs[124]? = some Try.f124 := Try.func124
abbrev Fc.ref03_place : Nat := 125  -- consort/consortref03.place
theorem Fn.ref03_place : Try.prog.funcs[125]? = some Try.f125 := Try.func125
abbrev Fc.law03_own_1 : Nat := 126  -- consort/consortlaw03.own$1
theorem Fn.law03_own_1 : Try.prog.funcs[126]? = some Try.f126 := Try.func126
abbrev Fc.slices_DeleteFunc_Lint_int : Nat := 127  -- slices.DeleteFunc[[]int,int]
theorem Fn.slices_DeleteFunc_Lint_int : Try.prog.funcs[127]? = some Try.f127 := Try.func127
abbrev Fc.law03_own_2 : Nat := 128  -- consort/consortlaw03.own$2
theorem Fn.law03_own_2 : Try.prog.funcs[128]? = some Try.f128 := Try.func128
abbrev Fc.law03_own_3 : Nat := 129  -- consort/consortlaw03.own$3
theorem Fn.law03_own_3 : Try.prog.funcs[129]? = some Try.f129 := Try.func129
abbrev Fc.law03_turned_1 : Nat := 130  -- consort/consortlaw03.turned$1
theorem Fn.law03_turned_1 : Try.prog.funcs[130]? = some Try.f130 := Try.func130
abbrev Fc.line_merge : Nat := 131  -- consort/line.merge
theorem Fn.line_merge : Try.prog.funcs[131]? = some Try.f131 := Try.func131
abbrev Fc.line_bare_1 : Nat := 132  -- consort/line.bare$1
theorem Fn.line_bare_1 : Try.prog.funcs[132]? = some Try.f132 := Try.func132
abbrev Fc.ref03_free : Nat := 133  -- consort/consortref03.free
theorem Fn.ref03_free : Try.prog.funcs[133]? = some Try.f133 := Try.func133
abbrev Fc.line_merge_1 : Nat := 134  -- consort/line.merge$1
theorem Fn.line_merge_1 : Try.prog.funcs[134]? = some Try.f134 := Try.func134
theorem Try.mixed : Try.prog.follows .mixedOrders = true := by kernel_rfl
end Go.Proofs
/- Go's slices: Index, Contains, IndexFunc, ContainsFunc, Clone, Equal. -/
namespace Go.Proofs
open Go Go.W Go.V
theorem s_slices_Index_Lint_int (l : List Int) (n : Int) : V.Spec Try.prog Fc.slices_Index_Lint_int [ints l, V.int n] [] (V.int (fidx (fun x => n == x) 0 l)) [] := by
  refine V.Spec.enter Try.tabOK Try.mixed Fn.slices_Index_Lint_int rfl rfl rfl fun B hB => ?_
  refine TC.bl 0 fun hl => ?_
  repeat' (first
   | (with_reducible refine OL.st ?_)
   | (with_reducible refine TC.region ?_)
   | (with_reducible refine TC.seq ?_)
   | (with_reducible refine OL.nil ?_)
   | (with_reducible refine TX.thenN ?_)
   | (with_reducible refine TC.block ?_)
   | fail)
  refine TC.lp (fun k : Nat => [(0, ints l), (1, V.int n), (7, V.int l.length), (8, V.int k)]) (fun _ => []) (fun k => k ≤ l.length ∧ fidx (fun x => n == x) 0 l = fidx (fun x => n == x) k (l.drop k)) (fun k => l.length - k) 0 [] ⟨Nat.zero_le _, rfl⟩ ?_
  rintro k ⟨hk, hinv⟩
  repeat' (first
   | (with_reducible refine OL.st ?_)
   | (with_reducible refine TC.region ?_)
   | (with_reducible refine TC.seq ?_)
   | (with_reducible refine OL.nil ?_)
   | (with_reducible refine TX.thenN ?_)
   | (with_reducible refine TC.block ?_)
   | (with_reducible refine TC.skip ?_)
   | (with_reducible refine TX.blkN ?_)
   | (with_reducible refine TC.exit ?_)
   | (with_reducible refine TX.hit ?_)
   | (with_reducible refine TX.thenX ?_)
   | (with_reducible refine TC.ifD ?_ ?_ <;> (intro hc; try (exfalso; omega)))
   | (with_reducible refine TC.ret ?_)
   | (with_reducible refine TX.thenR ?_)
   | (with_reducible refine TX.blkR ?_)
   | fail)
  · refine TX.rt1 [] (.int ?_)
    rw [hinv, drop_cons (by omega)]
    simp [fidx, ← hc]
  · refine TX.rd (k + 1) [] ⟨by omega, ?_⟩ (by omega)
    rw [hinv, drop_cons (by omega)]
    simp [fidx, hc]
  · refine TX.rt1 [] (.int ?_)
    rw [hinv, drop_nil (by omega)]
    rfl
theorem s_slices_Contains_Lint_int (l : List Int) (n : Int) : V.Spec Try.prog Fc.slices_Contains_Lint_int [ints l, V.int n] [] (V.bool (l.contains n)) [] := by
  refine V.Spec.enter Try.tabOK Try.mixed Fn.slices_Contains_Lint_int rfl rfl rfl fun B hB => ?_
  repeat' (first
   | (with_reducible refine OL.st ?_)
   | (with_reducible refine TC.region ?_)
   | (with_reducible refine TC.seq ?_)
   | (with_reducible refine OL.nil ?_)
   | (with_reducible refine TX.thenN ?_)
   | fail)
  refine OL.c (s_slices_Index_Lint_int l n) Fn.slices_Index_Lint_int ?_
  repeat' (first
   | (with_reducible refine OL.st ?_)
   | (with_reducible refine OL.nil ?_)
   | (with_reducible refine TX.thenN ?_)
   | (with_reducible refine TC.ret ?_)
   | fail)
  refine TX.rt1 [] (.bool ?_)
  rw [← any_beq_contains]
  cases h : l.any fun x => n == x
  · rw [decide_eq_false]; intro h'; rw [(fidx_nonneg _ _ _).1 h'] at h; cases h
  · exact decide_eq_true ((fidx_nonneg _ _ _).2 h)
theorem s_slices_IndexFunc_Lint_int (l : List (Int)) (p : Int → Bool) : V.Spec Try.prog Fc.slices_IndexFunc_Lint_int [.sl 1 none (l.map V.int), predE Try.prog V.int (· ∈ l) p] [] (V.int (fidx p 0 l)) [] := by
  refine V.Spec.enter Try.tabOK Try.mixed Fn.slices_IndexFunc_Lint_int rfl rfl rfl fun B hB => ?_
  refine TC.bl 0 fun hl => ?_
  repeat' (first
   | (with_reducible refine OL.st ?_)
   | (with_reducible refine TC.region ?_)
   | (with_reducible refine TC.seq ?_)
   | (with_reducible refine OL.nil ?_)
   | (with_reducible refine TX.thenN ?_)
   | (with_reducible refine TC.block ?_)
   | fail)
  refine TC.lp (fun k : Nat => [(0, .sl 1 none (l.map V.int)), (1, predE Try.prog V.int (· ∈ l) p), (7, V.int l.length), (8, V.int k)]) (fun _ => []) (fun k => k ≤ l.length ∧ fidx p 0 l = fidx p k (l.drop k)) (fun k => l.length - k) 0 [] ⟨Nat.zero_le _, rfl⟩ ?_
  rintro k ⟨hk, hinv⟩
  repeat' (first
   | (with_reducible refine OL.st ?_)
   | (with_reducible refine TC.region ?_)
   | (with_reducible refine TC.seq ?_)
   | (with_reducible refine OL.nil ?_)
   | (with_reducible refine TX.thenN ?_)
   | (with_reducible refine TC.block ?_)
   | (with_reducible refine TC.skip ?_)
   | (with_reducible refine TC.exit ?_)
   | (with_reducible refine TX.hit ?_)
   | (with_reducible refine TX.thenX ?_)
   | (with_reducible refine TC.ifD ?_ ?_ <;> (intro hc; try (exfalso; omega)))
   | (with_reducible refine TC.ret ?_)
   | fail)
  · refine OL.cf l[k] (List.getElem_mem _) ?_
    repeat' (first | (with_reducible refine OL.nil ?_) | (with_reducible refine TX.thenN ?_) | fail)
    refine TC.ifB (fun hp => ?_) (fun hp => ?_)
    · repeat' (first
       | (with_reducible refine OL.st ?_)
       | (with_reducible refine TC.region ?_)
       | (with_reducible refine TC.seq ?_)
       | (with_reducible refine OL.nil ?_)
       | (with_reducible refine TX.thenN ?_)
       | (with_reducible refine TC.ret ?_)
       | (with_reducible refine TX.thenR ?_)
       | (with_reducible refine TX.blkR ?_)
       | fail)
      refine TX.rt1 [] (.int ?_)
      rw [hinv, drop_cons (by omega)]
      simp [fidx, hp]
    · repeat' (first
       | (with_reducible refine OL.st ?_)
       | (with_reducible refine TC.region ?_)
       | (with_reducible refine OL.nil ?_)
       | (with_reducible refine TX.thenN ?_)
       | (with_reducible refine TC.skip ?_)
       | (with_reducible refine TX.blkN ?_)
       | fail)
      refine TX.rd (k + 1) [] ⟨by omega, ?_⟩ (by omega)
      rw [hinv, drop_cons (by omega)]
      simp [fidx, hp]
  · refine TX.rt1 [] (.int ?_)
    rw [hinv, drop_nil (by omega)]
    rfl
theorem s_slices_ContainsFunc_Lint_int (l : List (Int)) (p : Int → Bool) : V.Spec Try.prog Fc.slices_ContainsFunc_Lint_int [.sl 1 none (l.map V.int), predE Try.prog V.int (· ∈ l) p] [] (V.bool (l.any p)) [] := by
  refine V.Spec.enter Try.tabOK Try.mixed Fn.slices_ContainsFunc_Lint_int rfl rfl rfl fun B hB => ?_
  repeat' (first
   | (with_reducible refine OL.st ?_)
   | (with_reducible refine TC.region ?_)
   | (with_reducible refine TC.seq ?_)
   | (with_reducible refine OL.nil ?_)
   | (with_reducible refine TX.thenN ?_)
   | fail)
  refine OL.c (s_slices_IndexFunc_Lint_int l p) Fn.slices_IndexFunc_Lint_int ?_
  repeat' (first
   | (with_reducible refine OL.st ?_)
   | (with_reducible refine OL.nil ?_)
   | (with_reducible refine TX.thenN ?_)
   | (with_reducible refine TC.ret ?_)
   | fail)
  refine TX.rt1 [] (.bool ?_)
  cases h : l.any p
  · rw [decide_eq_false]; intro h'; rw [(fidx_nonneg _ _ _).1 h'] at h; cases h
  · exact decide_eq_true ((fidx_nonneg _ _ _).2 h)
theorem s_slices_IndexFunc_LLint_Lint (l : List (List Int)) (p : List Int → Bool) : V.Spec Try.prog Fc.slices_IndexFunc_LLint_Lint [.sl 1 none (l.map ints), predE Try.prog ints (· ∈ l) p] [] (V.int (fidx p 0 l)) [] := by
  refine V.Spec.enter Try.tabOK Try.mixed Fn.slices_IndexFunc_LLint_Lint rfl rfl rfl fun B hB => ?_
  refine TC.bl 0 fun hl => ?_
  repeat' (first
   | (with_reducible refine OL.st ?_)
   | (with_reducible refine TC.region ?_)
   | (with_reducible refine TC.seq ?_)
   | (with_reducible refine OL.nil ?_)
   | (with_reducible refine TX.thenN ?_)
   | (with_reducible refine TC.block ?_)
   | fail)
  refine TC.lp (fun k : Nat => [(0, .sl 1 none (l.map ints)), (1, predE Try.prog ints (· ∈ l) p), (7, V.int l.length), (8, V.int k)]) (fun _ => []) (fun k => k ≤ l.length ∧ fidx p 0 l = fidx p k (l.drop k)) (fun k => l.length - k) 0 [] ⟨Nat.zero_le _, rfl⟩ ?_
  rintro k ⟨hk, hinv⟩
  repeat' (first
   | (with_reducible refine OL.st ?_)
   | (with_reducible refine TC.region ?_)
   | (with_reducible refine TC.seq ?_)
   | (with_reducible refine OL.nil ?_)
   | (with_reducible refine TX.thenN ?_)
   | (with_reducible refine TC.block ?_)
   | (with_reducible refine TC.skip ?_)
   | (with_reducible refine TC.exit ?_)
   | (with_reducible refine TX.hit ?_)
   | (with_reducible refine TX.thenX ?_)
   | (with_reducible refine TC.ifD ?_ ?_ <;> (intro hc; try (exfalso; omega)))
   | (with_reducible refine TC.ret ?_)
   | fail)
  · refine OL.cf l[k] (List.getElem_mem _) ?_
    repeat' (first | (with_reducible refine OL.nil ?_) | (with_reducible refine TX.thenN ?_) | fail)
    refine TC.ifB (fun hp => ?_) (fun hp => ?_)
    · repeat' (first
       | (with_reducible refine OL.st ?_)
       | (with_reducible refine TC.region ?_)
       | (with_reducible refine TC.seq ?_)
       | (with_reducible refine OL.nil ?_)
       | (with_reducible refine TX.thenN ?_)
       | (with_reducible refine TC.ret ?_)
       | (with_reducible refine TX.thenR ?_)
       | (with_reducible refine TX.blkR ?_)
       | fail)
      refine TX.rt1 [] (.int ?_)
      rw [hinv, drop_cons (by omega)]
      simp [fidx, hp]
    · repeat' (first
       | (with_reducible refine OL.st ?_)
       | (with_reducible refine TC.region ?_)
       | (with_reducible refine OL.nil ?_)
       | (with_reducible refine TX.thenN ?_)
       | (with_reducible refine TC.skip ?_)
       | (with_reducible refine TX.blkN ?_)
       | fail)
      refine TX.rd (k + 1) [] ⟨by omega, ?_⟩ (by omega)
      rw [hinv, drop_cons (by omega)]
      simp [fidx, hp]
  · refine TX.rt1 [] (.int ?_)
    rw [hinv, drop_nil (by omega)]
    rfl
theorem s_slices_ContainsFunc_LLint_Lint (l : List (List Int)) (p : List Int → Bool) : V.Spec Try.prog Fc.slices_ContainsFunc_LLint_Lint [.sl 1 none (l.map ints), predE Try.prog ints (· ∈ l) p] [] (V.bool (l.any p)) [] := by
  refine V.Spec.enter Try.tabOK Try.mixed Fn.slices_ContainsFunc_LLint_Lint rfl rfl rfl fun B hB => ?_
  repeat' (first
   | (with_reducible refine OL.st ?_)
   | (with_reducible refine TC.region ?_)
   | (with_reducible refine TC.seq ?_)
   | (with_reducible refine OL.nil ?_)
   | (with_reducible refine TX.thenN ?_)
   | fail)
  refine OL.c (s_slices_IndexFunc_LLint_Lint l p) Fn.slices_IndexFunc_LLint_Lint ?_
  repeat' (first
   | (with_reducible refine OL.st ?_)
   | (with_reducible refine OL.nil ?_)
   | (with_reducible refine TX.thenN ?_)
   | (with_reducible refine TC.ret ?_)
   | fail)
  refine TX.rt1 [] (.bool ?_)
  cases h : l.any p
  · rw [decide_eq_false]; intro h'; rw [(fidx_nonneg _ _ _).1 h'] at h; cases h
  · exact decide_eq_true ((fidx_nonneg _ _ _).2 h)
theorem s_line_keep_int (l : List Int) (p : Int → Bool) (hb : l.length ≤ 1000000000) : V.Spec Try.prog Fc.line_keep_int [ints l, predI Try.prog (· ∈ l) p] [] (.hs 0) [.gs false Tc.int 1 none ((l.filter p).map V.int)] := by
  refine V.Spec.enter Try.tabOK Try.mixed Fn.line_keep_int rfl rfl rfl fun B hB => ?_
  repeat' (first
   | (with_reducible refine OL.st ?_)
   | (with_reducible refine TC.region ?_)
   | (with_reducible refine TC.seq ?_)
   | (with_reducible refine OL.nil ?_)
   | (with_reducible refine TX.thenN ?_)
   | (with_reducible refine TC.block ?_)
   | fail)
  refine TC.adp 5 Tc.int 1 ?_
  refine TC.lp (fun k : Nat => [(1, predI Try.prog (· ∈ l) p), (5, .hs 0), (8, ints l), (9, V.int l.length), (10, V.int k)]) (fun k => [.gs false Tc.int 1 none (((l.take k).filter p).map V.int)]) (fun k => k ≤ l.length) (fun k => l.length - k) 0 [0] (Nat.zero_le _) ?_
  rintro k hk
  have hfl : ((l.take k).filter p).length ≤ l.length := Nat.le_trans (List.length_filter_le _ _) (by simp; omega)
  repeat' (first
   | (with_reducible refine OL.st ?_)
   | (with_reducible refine TC.region ?_)
   | (with_reducible refine TC.seq ?_)
   | (with_reducible refine OL.nil ?_)
   | (with_reducible refine TX.thenN ?_)
   | (with_reducible refine TC.block ?_)
   | (with_reducible refine TC.skip ?_)
   | (with_reducible refine TC.exit ?_)
   | (with_reducible refine TX.hit ?_)
   | (with_reducible refine TX.thenX ?_)
   | (with_reducible refine TC.ifD ?_ ?_ <;> (intro hc; try (exfalso; omega)))
   | (with_reducible refine TC.ret ?_)
   | fail)
  · refine OL.cf l[k] (List.getElem_mem _) ?_
    repeat' (first | (with_reducible refine OL.nil ?_) | (with_reducible refine TX.thenN ?_) | fail)
    refine TC.ifB (fun hp => ?_) (fun hp => ?_)
    · repeat' (first
       | (with_reducible refine OL.st ?_)
       | (with_reducible refine OL.lit ?_)
       | (with_reducible refine OL.appO ?_)
       | (with_reducible refine TC.region ?_)
       | (with_reducible refine OL.nil ?_)
       | (with_reducible refine TX.thenN ?_)
       | (with_reducible refine TX.blkN ?_)
       | fail)
      have e : ((l.take k).filter p).map V.int ++ [V.int l[k]] = ((l.take (k + 1)).filter p).map V.int := by rw [filter_take_t (by omega) hp]; simp
      exact TX.rd (k + 1) [2] (by omega) (by omega)
    · repeat' (first
       | (with_reducible refine OL.st ?_)
       | (with_reducible refine TC.region ?_)
       | (with_reducible refine OL.nil ?_)
       | (with_reducible refine TX.thenN ?_)
       | (with_reducible refine TC.skip ?_)
       | (with_reducible refine TX.blkN ?_)
       | fail)
      have e : ((l.take k).filter p).map V.int = ((l.take (k + 1)).filter p).map V.int := by rw [filter_take_f (by omega) hp]
      exact TX.rd (k + 1) [0] (by omega) (by omega)
  · rw [take_all (by omega)]
    exact TX.rt1 [0] (.ren rfl)
end Go.Proofs
/- line's sets, bare, of, fine. -/
namespace Go.Proofs
open Go Go.W Go.V
theorem s_line_bare_1 (c : Int) : V.Spec Try.prog Fc.line_bare_1 [V.int c] [] (V.bool (c != 0)) [] := by
  refine V.Spec.enter Try.tabOK Try.mixed Fn.line_bare_1 rfl rfl rfl fun B hB => ?_
  repeat' (first
   | (with_reducible refine OL.st ?_)
   | (with_reducible refine TC.region ?_)
   | (with_reducible refine TC.seq ?_)
   | (with_reducible refine OL.nil ?_)
   | (with_reducible refine TX.thenN ?_)
   | (with_reducible refine TC.ret ?_)
   | fail)
  refine TX.rt1 [] (.bool ?_)
  by_cases h : c = 0 <;> simp [h]
theorem s_line_bare (l : List Int) (hb : l.length ≤ 1000000000) : V.Spec Try.prog Fc.line_bare [ints l] [] (.hs 0) [.gs false Tc.int 1 none ((bare l).map V.int)] := by
  refine V.Spec.enter Try.tabOK Try.mixed Fn.line_bare rfl rfl rfl fun B hB => ?_
  repeat' (first
   | (with_reducible refine OL.st ?_)
   | (with_reducible refine TC.region ?_)
   | (with_reducible refine TC.seq ?_)
   | (with_reducible refine OL.nil ?_)
   | (with_reducible refine TX.thenN ?_)
   | fail)
  refine OL.c (s_line_keep_int l (fun c => c != 0) hb) Fn.line_keep_int ?_ (hle := by exact ⟨.ren rfl, .fun0 Fn.line_bare_1 (fun c _ => s_line_bare_1 c), trivial⟩)
  repeat' (first
   | (with_reducible refine OL.st ?_)
   | (with_reducible refine OL.nil ?_)
   | (with_reducible refine TX.thenN ?_)
   | (with_reducible refine TC.ret ?_)
   | fail)
  exact TX.rt1 [0] (.ren rfl)
abbrev setA (x : Nat) : AV := .st [V.u64 x]
def setWith (x : Nat) (c : Nat) : Nat := x ||| 1 <<< c
theorem s_line_set_has (x : Nat) (hx : x < 2 ^ 64) (c : Int) : V.Spec Try.prog Fc.line_set_has [setA x, V.int c] [] (V.bool (decide (0 ≤ c) && decide (c < 64) && x.testBit c.toNat)) [] := by
  refine V.Spec.enter Try.tabOK Try.mixed Fn.line_set_has rfl rfl rfl fun B hB => ?_
  repeat' (first
   | (with_reducible refine OL.st ?_)
   | (with_reducible refine OL.box ?_)
   | (with_reducible refine TC.region ?_)
   | (with_reducible refine TC.seq ?_)
   | (with_reducible refine OL.nil ?_)
   | (with_reducible refine TX.thenN ?_)
   | (with_reducible refine OL.gOn ?_)
   | (with_reducible refine OL.gOff ?_)
   | (with_reducible refine OL.gD ?_ ?_ <;> (intro hc; try (exfalso; omega)))
   | (with_reducible refine TC.ret ?_)
   | fail)
  all_goals refine TX.rt1 [] (.bool ?_)
  · have e1 : decide (0 ≤ c) = true := by simp; omega
    have e2 : decide (c < 64) = true := by simp; omega
    rw [e1, e2, shr_and_one]
    cases hb' : x.testBit c.toNat <;> simp
  · have : decide (c < 64) = false := by simp; omega
    simp [this]
  · have : decide (0 ≤ c) = false := by simp; omega
    simp [this]
theorem s_line_set_with (x : Nat) (hx : x < 2 ^ 64) (c : Int) (h0 : 0 ≤ c) (h1 : c < 64) : V.Spec Try.prog Fc.line_set_with [setA x, V.int c] [] (setA (setWith x c.toNat)) [] := by
  refine V.Spec.enter Try.tabOK Try.mixed Fn.line_set_with rfl rfl rfl fun B hB => ?_
  repeat' (first
   | (with_reducible refine OL.box ?_)
   | (with_reducible refine OL.alloc ?_)
   | (with_reducible refine TC.region ?_)
   | (with_reducible refine TC.seq ?_)
   | (with_reducible refine OL.nil ?_)
   | (with_reducible refine TX.thenN ?_)
   | fail)
  (with_reducible refine TC.draw (id := 1) true 6 7 ?_) <;> (with_reducible refine OD.st 0 ?_) <;> (with_reducible refine OD.st 1 ?_) <;> (with_reducible refine OD.st 2 ?_) <;> (with_reducible refine OD.st 3 ?_) <;> (with_reducible refine OD.st 4 ?_) <;> (with_reducible refine OD.st 5 ?_) <;> (with_reducible refine OD.a1 6 ?_; with_reducible refine OL.store ?_; with_reducible refine OL.nil ?_; with_reducible refine TX.od ?_) <;> (with_reducible refine OD.dn ?_)
  repeat' (first
   | (with_reducible refine OL.st ?_)
   | (with_reducible refine OL.storeAgg ?_)
   | (with_reducible refine TC.region ?_)
   | (with_reducible refine TC.seq ?_)
   | (with_reducible refine OL.nil ?_)
   | (with_reducible refine TX.thenN ?_)
   | (with_reducible refine TC.ret ?_)
   | fail)
  exact TX.rtc [] (.ren rfl)
theorem s_line_set_or (x y : Nat) (hx : x < 2 ^ 64) (hy : y < 2 ^ 64) : V.Spec Try.prog Fc.line_set_or [setA x, setA y] [] (setA (x ||| y)) [] := by
  refine V.Spec.enter Try.tabOK Try.mixed Fn.line_set_or rfl rfl rfl fun B hB => ?_
  repeat' (first
   | (with_reducible refine OL.st ?_)
   | (with_reducible refine OL.box ?_)
   | (with_reducible refine OL.alloc ?_)
   | (with_reducible refine OL.store ?_)
   | (with_reducible refine OL.storeAgg ?_)
   | (with_reducible refine TC.region ?_)
   | (with_reducible refine TC.seq ?_)
   | (with_reducible refine OL.nil ?_)
   | (with_reducible refine TX.thenN ?_)
   | (with_reducible refine TC.ret ?_)
   | fail)
  exact TX.rtc [] (.ren rfl)
theorem s_line_set_and (x y : Nat) (hx : x < 2 ^ 64) (hy : y < 2 ^ 64) : V.Spec Try.prog Fc.line_set_and [setA x, setA y] [] (setA (x &&& y)) [] := by
  refine V.Spec.enter Try.tabOK Try.mixed Fn.line_set_and rfl rfl rfl fun B hB => ?_
  repeat' (first
   | (with_reducible refine OL.st ?_)
   | (with_reducible refine OL.box ?_)
   | (with_reducible refine OL.alloc ?_)
   | (with_reducible refine OL.store ?_)
   | (with_reducible refine OL.storeAgg ?_)
   | (with_reducible refine TC.region ?_)
   | (with_reducible refine TC.seq ?_)
   | (with_reducible refine OL.nil ?_)
   | (with_reducible refine TX.thenN ?_)
   | (with_reducible refine TC.ret ?_)
   | fail)
  exact TX.rtc [] (.ren rfl)
theorem setWith_lt {x c : Nat} (hx : x < 2 ^ 64) (hc : c < 64) : setWith x c < 2 ^ 64 := Nat.or_lt_two_pow hx (by rw [Nat.one_shiftLeft]; exact Nat.pow_lt_pow_right (by omega) hc)
def ofL (l : List Int) : Nat := l.foldl (fun s c => setWith s c.toNat) 0
theorem ofL_snoc (l : List Int) (c : Int) : ofL (l ++ [c]) = setWith (ofL l) c.toNat := by simp [ofL]
theorem ofL_lt (l : List Int) (hr : ∀ c ∈ l, 0 ≤ c ∧ c < 64) : ofL l < 2 ^ 64 := by
  have key : ∀ (l : List Int) (s : Nat), s < 2 ^ 64 → (∀ c ∈ l, 0 ≤ c ∧ c < 64) → l.foldl (fun s c => setWith s c.toNat) s < 2 ^ 64 := by
    intro l
    induction l with
    | nil => intro s hs _; exact hs
    | cons c r ih =>
      intro s hs hr
      have := hr c (by simp)
      exact ih _ (setWith_lt hs (by omega)) (fun c hc => hr c (by simp [hc]))
  exact key l 0 (by decide) hr
theorem s_line_of (l : List Int) (hr : ∀ c ∈ l, 0 ≤ c ∧ c < 64) : V.Spec Try.prog Fc.line_of [ints l] [] (setA (ofL l)) [] := by
  refine V.Spec.enter Try.tabOK Try.mixed Fn.line_of rfl rfl rfl fun B hB => ?_
  refine TC.bl 0 fun hl => ?_
  repeat' (first
   | (with_reducible refine OL.st ?_)
   | (with_reducible refine OL.alloc ?_)
   | (with_reducible refine TC.region ?_)
   | (with_reducible refine TC.seq ?_)
   | (with_reducible refine OL.nil ?_)
   | (with_reducible refine TX.thenN ?_)
   | (with_reducible refine TC.block ?_)
   | fail)
  refine TC.lp (fun k : Nat => [(2, .bp 0 0), (3, .bp 1 0), (6, ints l), (7, V.int l.length), (8, V.int k)]) (fun k => [.cb Tc.line_set [V.u64 0], .cb Tc.line_set [V.u64 (ofL (l.take k))]]) (fun k => k ≤ l.length) (fun k => l.length - k) 0 [0, 1] (Nat.zero_le _) ?_
  rintro k hk
  have hlt := ofL_lt (l.take k) (fun c hc => hr c (List.mem_of_mem_take hc))
  repeat' (first
   | (with_reducible refine OL.st ?_)
   | (with_reducible refine OL.storeAgg ?_)
   | (with_reducible refine TC.region ?_)
   | (with_reducible refine TC.seq ?_)
   | (with_reducible refine OL.nil ?_)
   | (with_reducible refine TX.thenN ?_)
   | (with_reducible refine TC.block ?_)
   | (with_reducible refine TC.skip ?_)
   | (with_reducible refine TC.exit ?_)
   | (with_reducible refine TX.hit ?_)
   | (with_reducible refine TX.thenX ?_)
   | (with_reducible refine TC.ifD ?_ ?_ <;> (intro hc; try (exfalso; omega)))
   | (with_reducible refine TC.ret ?_)
   | fail)
  · have hc64 := hr l[k] (List.getElem_mem _)
    refine OL.c (s_line_set_with _ hlt l[k] hc64.1 hc64.2) Fn.line_set_with ?_
    repeat' (first
     | (with_reducible refine OL.st ?_)
     | (with_reducible refine OL.storeAgg ?_)
     | (with_reducible refine TC.region ?_)
     | (with_reducible refine OL.nil ?_)
     | (with_reducible refine TX.thenN ?_)
     | (with_reducible refine TX.blkN ?_)
     | fail)
    rw [← ofL_snoc, ← take_succ (by omega)]
    exact TX.rd (k + 1) [0, 1] (by omega) (by omega)
  · rw [take_all (by omega)]
    exact TX.rtc [] (.ren rfl)
end Go.Proofs
/- line's fine and merge. -/
namespace Go.Proofs
open Go Go.W Go.V
set_option maxHeartbeats 1000000 in
theorem s_line_fine (g : List (List Int)) : V.Spec Try.prog Fc.line_fine [rows g] [] (V.bool (fine g)) [] := by
  refine V.Spec.enter Try.tabOK Try.mixed Fn.line_fine rfl rfl rfl fun B hB => ?_
  refine TC.bl 0 fun hlen => ?_
  repeat' (first
   | (with_reducible refine OL.st ?_)
   | (with_reducible refine TC.region ?_)
   | (with_reducible refine TC.seq ?_)
   | (with_reducible refine OL.nil ?_)
   | (with_reducible refine TX.thenN ?_)
   | (with_reducible refine TC.block ?_)
   | (with_reducible refine TC.skip ?_)
   | (with_reducible refine TC.ifD ?_ ?_ <;> (intro hc; try (exfalso; omega)))
   | (with_reducible refine TC.ret ?_)
   | (with_reducible refine TX.thenR ?_)
   | fail)
  · refine TX.rt1 [] (.bool ?_)
    have : decide (g.length ≤ 16) = false := by simp; omega
    simp [fine, this]
  have hfine : fine g = okRows 0 g := by
    have : decide (g.length ≤ 16) = true := by simp; omega
    simp [fine, this]
  have h16 : g.length ≤ 16 := by omega
  refine TC.lp (fun i : Nat => [(10, rows g), (11, V.int g.length), (12, V.int i)]) (fun _ => []) (fun i => i ≤ g.length ∧ okRows 0 g = okRows i (g.drop i)) (fun i => g.length - i) 0 [] ⟨Nat.zero_le _, rfl⟩ ?_
  rintro i ⟨hi, hinv⟩
  repeat' (first
   | (with_reducible refine OL.st ?_)
   | (with_reducible refine TC.region ?_)
   | (with_reducible refine TC.seq ?_)
   | (with_reducible refine OL.nil ?_)
   | (with_reducible refine TX.thenN ?_)
   | (with_reducible refine TC.block ?_)
   | (with_reducible refine TC.skip ?_)
   | (with_reducible refine TC.exit ?_)
   | (with_reducible refine TX.hit ?_)
   | (with_reducible refine TX.thenX ?_)
   | (with_reducible refine TC.ifD ?_ ?_ <;> (intro hc; try (exfalso; omega)))
   | (with_reducible refine TC.ret ?_)
   | (with_reducible refine TX.thenR ?_)
   | (with_reducible refine TX.blkR ?_)
   | fail)
  · refine TX.rt1 [] (.bool ?_)
    rw [hfine, hinv, drop_cons (by omega)]
    have : decide (g[i].length ≤ 3) = false := by simp; omega
    simp [okRows, this]
  · have hr3 : g[i].length ≤ 3 := by omega
    have hst : okRows i (g.drop i) = (okRow i [] g[i] && okRows (i + 1) (g.drop (i + 1))) := by
      rw [drop_cons (by omega)]
      have : decide (g[i].length ≤ 3) = true := by simp; omega
      simp [okRows, this]
    generalize g[i] = r at *
    refine TC.lp (fun k : Nat => [(3, V.int i), (4, ints r), (20, ints r), (21, V.int r.length), (22, V.int k), (10, rows g), (11, V.int g.length), (12, V.int i)]) (fun _ => []) (fun k => k ≤ r.length ∧ okRow i [] r = okRow i (r.take k) (r.drop k)) (fun k => r.length - k) 0 [] ⟨Nat.zero_le _, rfl⟩ ?_
    rintro k ⟨hk, hki⟩
    have hfail : okRow i (r.take k) (r.drop k) = false → fine g = false := fun hb => by rw [hfine, hinv, hst, hki.trans hb]; rfl
    repeat' (first
     | (with_reducible refine OL.st ?_)
     | (with_reducible refine TC.region ?_)
     | (with_reducible refine TC.seq ?_)
     | (with_reducible refine OL.nil ?_)
     | (with_reducible refine TX.thenN ?_)
     | (with_reducible refine TC.block ?_)
     | (with_reducible refine TC.skip ?_)
     | (with_reducible refine TX.blkN ?_)
     | (with_reducible refine TC.exit ?_)
     | (with_reducible refine TX.hit ?_)
     | (with_reducible refine TX.thenX ?_)
     | (with_reducible refine TC.ifT ?_)
     | (with_reducible refine OL.gOn ?_)
     | (with_reducible refine OL.gOff ?_)
     | (with_reducible refine TC.ifD ?_ ?_ <;> (intro hc; try (exfalso; omega)))
     | (with_reducible refine OL.gD ?_ ?_ <;> (intro hc; try (exfalso; omega)))
     | (with_reducible refine TC.ret ?_)
     | (with_reducible refine TX.thenR ?_)
     | (with_reducible refine TX.blkR ?_)
     | fail)
    · refine TX.rt1 [] (.bool ?_)
      rw [hfail]
      rw [drop_cons (by omega)]
      have : decide (3 ≤ r[k]) = false := by simp; omega
      simp [okRow, this]
    · refine TX.rt1 [] (.bool ?_)
      rw [hfail]
      rw [drop_cons (by omega)]
      have : decide (r[k] < 3 + (i : Int)) = false := by simp; omega
      simp [okRow, this]
    · refine OL.c (s_slices_Contains_Lint_int (r.take k) r[k]) Fn.slices_Contains_Lint_int ?_
      have e1 : decide (3 ≤ r[k]) = true := by simp; omega
      have e2 : decide (r[k] < 3 + (i : Int)) = true := by simp; omega
      repeat' (first
       | (with_reducible refine OL.st ?_)
       | (with_reducible refine OL.nil ?_)
       | (with_reducible refine TX.thenN ?_)
       | fail)
      refine TC.ifB (fun hct => ?_) (fun hct => ?_)
      · repeat' (first
         | (with_reducible refine OL.st ?_)
         | (with_reducible refine TC.region ?_)
         | (with_reducible refine TC.seq ?_)
         | (with_reducible refine OL.nil ?_)
         | (with_reducible refine TX.thenN ?_)
         | (with_reducible refine TC.ret ?_)
         | (with_reducible refine TX.thenR ?_)
         | (with_reducible refine TX.blkR ?_)
         | fail)
        refine TX.rt1 [] (.bool ?_)
        rw [hfail]
        rw [drop_cons (by omega), okRow, hct]
        simp
      · repeat' (first
         | (with_reducible refine OL.st ?_)
         | (with_reducible refine TC.region ?_)
         | (with_reducible refine OL.nil ?_)
         | (with_reducible refine TX.thenN ?_)
         | (with_reducible refine TC.skip ?_)
         | (with_reducible refine TX.blkN ?_)
         | fail)
        refine TX.rd (k + 1) [] ⟨by omega, ?_⟩ (by omega)
        rw [hki, drop_cons (by omega), take_succ (by omega)]
        rw [okRow, e1, e2, hct]
        rfl
    · refine TX.rd (i + 1) [] ⟨by omega, ?_⟩ (by omega)
      rw [hinv, hst, hki, drop_nil (by omega)]
      rfl
  · refine TX.rt1 [] (.bool ?_)
    rw [hfine, hinv, drop_nil (by omega)]
    rfl
theorem s_line_merge_1 (c h : Int) : V.Spec Try.prog Fc.line_merge_1 [V.int c, .ep [V.int h] 0] [] (V.bool (c != h)) [] := by
  refine V.Spec.enter Try.tabOK Try.mixed Fn.line_merge_1 rfl rfl rfl fun B hB => ?_
  repeat' (first
   | (with_reducible refine OL.st ?_)
   | (with_reducible refine TC.region ?_)
   | (with_reducible refine TC.seq ?_)
   | (with_reducible refine OL.nil ?_)
   | (with_reducible refine TX.thenN ?_)
   | (with_reducible refine TC.ret ?_)
   | fail)
  refine TX.rt1 [] (.bool ?_)
  by_cases e : c = h <;> simp [e]
theorem free_step {all : List (List Int)} {k : Nat} {h : Int} (hk : k < all.length) : free (all.take (k + 1)) h = (free (all.take k) h && !(all[k].drop 1).contains h) := by
  rw [take_succ hk]; simp only [free, List.all_append, List.all_cons, List.all_nil, Bool.and_true]
theorem free_out {all : List (List Int)} {k : Nat} {h : Int} (hk : k < all.length) (hc : (all[k].drop 1).contains h = true) : free all h = false := by
  simp only [free, List.all_eq_false]
  exact ⟨all[k], List.getElem_mem hk, by simp only [hc]; simp⟩
set_option maxHeartbeats 2000000 in
theorem s_line_merge (all0 : List (List Int)) (hb : total all0 ≤ 1000000) (hb2 : all0.length ≤ 1000000) :
    V.Spec Try.prog Fc.line_merge [rows all0] [] (.tp [.hs 0, V.bool (merge all0).2]) [.gs false Tc.int 1 none ((merge all0).1.map V.int)] := by
  refine V.Spec.enter Try.tabOK Try.mixed Fn.line_merge rfl rfl rfl fun B hB => ?_
  repeat' (first
   | (with_reducible refine OL.st ?_)
   | (with_reducible refine TC.region ?_)
   | (with_reducible refine TC.seq ?_)
   | (with_reducible refine OL.nil ?_)
   | (with_reducible refine TX.thenN ?_)
   | (with_reducible refine TC.block ?_)
   | (with_reducible refine TC.scope ?_)
   | (with_reducible refine TC.label ?_)
   | fail)
  refine TC.adp 4 Tc.int 1 ?_
  refine TC.lp (fun s : List (List Int) × List Int => [(0, rows s.1), (4, .hs 0)]) (fun s => [.gs false Tc.int 1 none (s.2.map V.int)]) (fun s => mergeF (total all0) all0 [] = mergeF (total s.1) s.1 s.2 ∧ s.1.length = all0.length ∧ s.2.length + total s.1 ≤ total all0) (fun s => total s.1) (all0, []) [0] ⟨rfl, rfl, by simp⟩ ?_
  rintro ⟨all, out⟩ ⟨hinv, hlen, htot⟩
  simp only at hinv hlen htot ⊢
  repeat' (first
   | (with_reducible refine OL.st ?_)
   | (with_reducible refine TC.region ?_)
   | (with_reducible refine TC.seq ?_)
   | (with_reducible refine OL.nil ?_)
   | (with_reducible refine TX.thenN ?_)
   | (with_reducible refine TC.block ?_)
   | (with_reducible refine TC.scope ?_)
   | (with_reducible refine TC.label ?_)
   | fail)
  -- the next element
  refine TC.lp (fun i : Nat => [(0, rows all), (4, .hs 0), (5, V.bool (anyNE (all.take i))), (14, rows all), (15, V.int all.length), (16, V.int i)]) (fun _ => [.gs false Tc.int 1 none (out.map V.int)])
    (fun i => i ≤ all.length ∧ nextOf all all = nextOf all (all.drop i)) (fun i => all.length - i) 0 [0] ⟨Nat.zero_le _, rfl⟩ ?_
  rintro i ⟨hi, hn⟩
  repeat' (first
   | (with_reducible refine OL.st ?_)
   | (with_reducible refine TC.region ?_)
   | (with_reducible refine TC.seq ?_)
   | (with_reducible refine OL.nil ?_)
   | (with_reducible refine TX.thenN ?_)
   | (with_reducible refine TC.block ?_)
   | (with_reducible refine TC.skip ?_)
   | (with_reducible refine TC.exit ?_)
   | (with_reducible refine TX.hit ?_)
   | (with_reducible refine TX.thenX ?_)
   | (with_reducible refine TC.ifD ?_ ?_ <;> (intro hc; try (exfalso; omega)))
   | (with_reducible refine TC.ret ?_)
   | (with_reducible refine TX.thenR ?_)
   | (with_reducible refine TX.blkR ?_)
   | (with_reducible refine TX.ngR ?_)
   | fail)
  · have he : all[i] = [] := List.eq_nil_of_length_eq_zero (by omega)
    have e5 : anyNE (all.take (i + 1)) = anyNE (all.take i) := by rw [take_succ (by omega), anyNE_snoc, he]; simp
    exact TX.rd (i + 1) [0] ⟨by omega, by rw [hn, drop_cons (by omega), he, nextOf_nil]⟩ (by omega)
  · have h0 : 0 < all[i].length := by omega
    have hne : all[i] ≠ [] := fun e => by rw [e] at h0; simp at h0
    have hne' : all[i].isEmpty = false := by simpa using hne
    have e5 : true = anyNE (all.take (i + 1)) := by rw [take_succ (by omega), anyNE_snoc, hne']; simp
    refine TC.lp (fun k : Nat => [(0, rows all), (4, .hs 0), (5, V.bool true), (7, ints all[i]), (14, rows all), (15, V.int all.length), (16, V.int i), (23, rows all), (24, V.int all.length), (25, V.int k)]) (fun _ => [.gs false Tc.int 1 none (out.map V.int)])
      (fun k => k ≤ all.length ∧ free (all.take k) all[i][0] = true) (fun k => all.length - k) 0 [0] ⟨Nat.zero_le _, rfl⟩ ?_
    rintro k ⟨hk, hfr⟩
    repeat' (first
     | (with_reducible refine OL.st ?_)
     | (with_reducible refine OL.alloc ?_)
     | (with_reducible refine OL.store ?_)
     | (with_reducible refine OL.lit ?_)
     | (with_reducible refine OL.appO ?_)
     | (with_reducible refine TC.region ?_)
     | (with_reducible refine TC.seq ?_)
     | (with_reducible refine OL.nil ?_)
     | (with_reducible refine TX.thenN ?_)
     | (with_reducible refine TC.block ?_)
     | (with_reducible refine TC.skip ?_)
     | (with_reducible refine TC.exit ?_)
     | (with_reducible refine TX.hit ?_)
     | (with_reducible refine TX.thenX ?_)
     | (with_reducible refine TC.ifD ?_ ?_ <;> (intro hc; try (exfalso; omega)))
     | fail)
    · have hkl : k < all.length := by omega
      (with_reducible refine TC.draw (id := 11) true 11 11 ?_) <;> (with_reducible refine OD.st 0 ?_) <;> (with_reducible refine OD.st 1 ?_) <;> (with_reducible refine OD.st 2 ?_) <;> (with_reducible refine OD.st 3 ?_) <;> (with_reducible refine OD.sD 32 ?_ ?_ <;> (intro hc; try (exfalso; omega)) <;> (first | (with_reducible refine OD.st 4 ?_) | (with_reducible refine OD.of 4 ?_))) <;> (first | (with_reducible refine OD.st 5 ?_) | (with_reducible refine OD.of 5 ?_)) <;> (first | (with_reducible refine OD.st 6 ?_) | (with_reducible refine OD.of 6 ?_)) <;> (first | (with_reducible refine OD.st 7 ?_) | (with_reducible refine OD.of 7 ?_)) <;> (first | (with_reducible refine OD.st 8 ?_) | (with_reducible refine OD.of 8 ?_)) <;> (first | (with_reducible refine OD.c1 9 (s_slices_Contains_Lint_int (all[k].drop 1) all[i][0]) Fn.slices_Contains_Lint_int ?_) | (with_reducible refine OD.of 9 ?_)) <;> (with_reducible refine OD.st 10 ?_) <;> (with_reducible refine OD.dn ?_)
      · repeat' (first | (with_reducible refine TX.thenN ?_) | fail)
        refine TC.ifB (fun hct => ?_) (fun hct => ?_)
        · repeat' (first
           | (with_reducible refine OL.st ?_)
           | (with_reducible refine TC.region ?_)
           | (with_reducible refine OL.nil ?_)
           | (with_reducible refine TX.thenN ?_)
           | (with_reducible refine TC.exit ?_)
           | (with_reducible refine TX.hit ?_)
           | (with_reducible refine TX.thenX ?_)
           | (with_reducible refine TX.miss ?_ rfl)
           | fail)
          exact TX.rd (i + 1) [0] ⟨by omega, by rw [hn, drop_cons (by omega), nextOf_get_f h0 (free_out hkl hct)]⟩ (by omega)
        · repeat' (first
           | (with_reducible refine OL.st ?_)
           | (with_reducible refine TC.region ?_)
           | (with_reducible refine OL.nil ?_)
           | (with_reducible refine TX.thenN ?_)
           | (with_reducible refine TC.skip ?_)
           | (with_reducible refine TX.blkN ?_)
           | fail)
          exact TX.rd (k + 1) [0] ⟨by omega, by rw [free_step hkl, hfr, hct]; rfl⟩ (by omega)
      · repeat' (first
         | (with_reducible refine OL.st ?_)
         | (with_reducible refine TC.region ?_)
         | (with_reducible refine OL.nil ?_)
         | (with_reducible refine TX.thenN ?_)
         | (with_reducible refine TC.skip ?_)
         | (with_reducible refine TX.blkN ?_)
         | (with_reducible refine TC.ifF ?_)
         | fail)
        refine TX.rd (k + 1) [0] ⟨by omega, ?_⟩ (by omega)
        have he : all[k] = [] := List.eq_nil_of_length_eq_zero (by omega)
        rw [free_step hkl, hfr, he]; rfl
    · rw [take_all (by omega)] at hfr
      have hnx : nextOf all all = some all[i][0] := by rw [hn, drop_cons (by omega), nextOf_get_t h0 hfr]
      have hmn := merge_next (out := out) hnx
      obtain ⟨t, hmem, _⟩ := nextOf_mem all all _ hnx
      have htl := total_without_lt all _ t hmem
      have hin : all[i][0] ∈ (all[i][0] :: t) := by simp
      have hol : out.length ≤ 1000000 := by omega
      refine TC.adp 11 Tc.Lint 1 ?_
      refine TC.frzB 10 ?_
      refine TC.lp (fun j : Nat => [(4, .hs 0), (10, .ep [V.int all[i][0]] 0), (11, .hs 1), (48, rows all), (49, V.int all.length), (50, V.int j)]) (fun j => [.gs false Tc.int 1 none ((out ++ [all[i][0]]).map V.int), .gs false Tc.Lint 1 none (((all.take j).map (without · all[i][0])).map ints)]) (fun j => j ≤ all.length) (fun j => all.length - j) 0 [3, 4] (Nat.zero_le _) ?_
      rintro j hj
      have hlj : ∀ hl : j < all.length, all[j].length ≤ 1000000 := fun hl => Nat.le_trans (total_le (List.getElem_mem hl)) (by omega)
      repeat' (first
       | (with_reducible refine OL.st ?_)
       | (with_reducible refine TC.region ?_)
       | (with_reducible refine TC.seq ?_)
       | (with_reducible refine OL.nil ?_)
       | (with_reducible refine TX.thenN ?_)
       | (with_reducible refine TC.block ?_)
       | (with_reducible refine TC.skip ?_)
       | (with_reducible refine TC.exit ?_)
       | (with_reducible refine TX.hit ?_)
       | (with_reducible refine TX.thenX ?_)
       | (with_reducible refine TX.miss ?_ rfl)
       | (with_reducible refine TC.ifD ?_ ?_ <;> (intro hc; try (exfalso; omega)))
       | (with_reducible refine TX.ngX ?_)
       | fail)
      · refine OL.c (s_line_keep_int all[j] (fun c => c != all[i][0]) (by have := hlj (by omega); omega)) Fn.line_keep_int ?_ (hle := by exact ⟨.ren rfl, .fun_ (first' := []) (caps' := [.ep [V.int all[i][0]] 0]) Fn.line_merge_1 rfl trivial ⟨.ren rfl, trivial⟩ (fun c _ => s_line_merge_1 c all[i][0]), trivial⟩)
        repeat' (first
         | (with_reducible refine OL.st ?_)
         | (with_reducible refine OL.litV ?_)
         | (with_reducible refine OL.lit ?_)
         | (with_reducible refine OL.appO ?_)
         | (with_reducible refine TC.region ?_)
         | (with_reducible refine OL.nil ?_)
         | (with_reducible refine TX.thenN ?_)
         | (with_reducible refine TX.blkN ?_)
         | fail)
        exact TX.rd (j + 1) [0, 4] (by omega) (by omega)
      · rw [take_all (by omega)]
        refine TX.vw 0 ?_
        refine TX.rd (all.map (without · all[i][0]), out ++ [all[i][0]]) [0] ⟨hinv.trans hmn, by simpa using hlen, ?_⟩ htl
        simp only [List.length_append, List.length_singleton]
        omega
  · have hn0 : nextOf all all = none := by rw [hn, drop_nil (by omega)]; rfl
    have hmn := merge_none (out := out) hn0
    rw [take_all (by omega)]
    rw [merge, hinv, hmn]
    exact TX.rt2 [0] (.ren rfl) (.ren rfl)
end Go.Proofs
/- The reference's small functions. -/
namespace Go.Proofs
open Go Go.W Go.V
theorem s_ref03_Same (la lb : List Int) : V.Spec Try.prog Fc.ref03_Same [ints la, ints lb] [] (V.bool (la == lb)) [] := by
  refine V.Spec.enter Try.tabOK Try.mixed Fn.ref03_Same rfl rfl rfl fun B hB => ?_
  refine TC.bl 0 fun hla => TC.bl 1 fun hlb => ?_
  repeat' (first
   | (with_reducible refine OL.st ?_)
   | (with_reducible refine TC.region ?_)
   | (with_reducible refine TC.seq ?_)
   | (with_reducible refine OL.nil ?_)
   | (with_reducible refine TX.thenN ?_)
   | (with_reducible refine TC.block ?_)
   | (with_reducible refine TC.skip ?_)
   | (with_reducible refine TC.ifD ?_ ?_ <;> (intro hc; try (exfalso; omega)))
   | (with_reducible refine TC.ret ?_)
   | (with_reducible refine TX.thenR ?_)
   | fail)
  · refine TX.rt1 [] (.bool ?_)
    have : la ≠ lb := fun e => by subst e; simp at hc
    simp [this]
  refine TC.lp (fun k : Nat => [(0, ints la), (1, ints lb), (5, V.int k)]) (fun _ => []) (fun k => k ≤ la.length ∧ la.take k = lb.take k) (fun k => la.length - k) 0 [] ⟨Nat.zero_le _, by simp⟩ ?_
  rintro k ⟨hk, hpre⟩
  have hleq : la.length = lb.length := by omega
  repeat' (first
   | (with_reducible refine OL.st ?_)
   | (with_reducible refine TC.region ?_)
   | (with_reducible refine TC.seq ?_)
   | (with_reducible refine OL.nil ?_)
   | (with_reducible refine TX.thenN ?_)
   | (with_reducible refine TC.block ?_)
   | (with_reducible refine TC.skip ?_)
   | (with_reducible refine TX.blkN ?_)
   | (with_reducible refine TC.exit ?_)
   | (with_reducible refine TX.hit ?_)
   | (with_reducible refine TX.thenX ?_)
   | (with_reducible refine TC.ifD ?_ ?_ <;> (intro hc; try (exfalso; omega)))
   | (with_reducible refine TC.ret ?_)
   | (with_reducible refine TX.thenR ?_)
   | (with_reducible refine TX.blkR ?_)
   | ((with_reducible refine TC.draw (id := 6) true 9 9 ?_) <;> (with_reducible refine OD.st 0 ?_) <;> (with_reducible refine OD.st 1 ?_) <;> (with_reducible refine OD.st 2 ?_) <;> (with_reducible refine OD.st 3 ?_) <;> (with_reducible refine OD.st 4 ?_) <;> (with_reducible refine OD.st 5 ?_) <;> (with_reducible refine OD.st 6 ?_) <;> (with_reducible refine OD.st 7 ?_) <;> (with_reducible refine OD.st 8 ?_) <;> (with_reducible refine OD.dn ?_))
   | fail)
  · refine TX.rt1 [] (.bool ?_)
    have : la ≠ lb := fun e => by subst e; exact hc rfl
    simp [this]
  · refine TX.rd (k + 1) [] ⟨by omega, ?_⟩ (by omega)
    have hc : la[k] = lb[k] := by simpa using hc
    rw [take_succ (by omega), take_succ (by omega), hpre, hc]
  · refine TX.rt1 [] (.bool ?_)
    have e : la = lb := by
      rw [← take_all (l := la) (k := k) (by omega), ← take_all (l := lb) (k := k) (by omega)]
      exact hpre
    simp [e]
theorem s_ref03_Has (l : List Int) (n : Int) : V.Spec Try.prog Fc.ref03_Has [ints l, V.int n] [] (V.bool (l.contains n)) [] := by
  refine V.Spec.enter Try.tabOK Try.mixed Fn.ref03_Has rfl rfl rfl fun B hB => ?_
  refine TC.bl 0 fun hl => ?_
  repeat' (first
   | (with_reducible refine OL.st ?_)
   | (with_reducible refine TC.region ?_)
   | (with_reducible refine TC.seq ?_)
   | (with_reducible refine OL.nil ?_)
   | (with_reducible refine TX.thenN ?_)
   | (with_reducible refine TC.block ?_)
   | fail)
  refine TC.lp (fun k : Nat => [(0, ints l), (1, V.int n), (5, V.int k)]) (fun _ => []) (fun k => k ≤ l.length ∧ l.contains n = (l.drop k).contains n) (fun k => l.length - k) 0 [] ⟨Nat.zero_le _, rfl⟩ ?_
  rintro k ⟨hk, hinv⟩
  repeat' (first
   | (with_reducible refine OL.st ?_)
   | (with_reducible refine TC.region ?_)
   | (with_reducible refine TC.seq ?_)
   | (with_reducible refine OL.nil ?_)
   | (with_reducible refine TX.thenN ?_)
   | (with_reducible refine TC.block ?_)
   | (with_reducible refine TC.skip ?_)
   | (with_reducible refine TX.blkN ?_)
   | (with_reducible refine TC.exit ?_)
   | (with_reducible refine TX.hit ?_)
   | (with_reducible refine TX.thenX ?_)
   | (with_reducible refine TC.ifD ?_ ?_ <;> (intro hc; try (exfalso; omega)))
   | (with_reducible refine TC.ret ?_)
   | (with_reducible refine TX.thenR ?_)
   | (with_reducible refine TX.blkR ?_)
   | fail)
  · refine TX.rt1 [] (.bool ?_)
    rw [hinv, drop_cons (by omega), hc]
    simp
  · refine TX.rd (k + 1) [] ⟨by omega, ?_⟩ (by omega)
    rw [hinv, drop_cons (by omega)]
    have : (n == l[k]) = false := by simp; exact fun e => hc e.symm
    rw [List.contains_cons, this, Bool.false_or]
  · refine TX.rt1 [] (.bool ?_)
    rw [hinv, drop_nil (by omega)]
    rfl
def isClass (g : List (List Int)) (c : Int) : Bool := decide (0 ≤ c) && decide (c < 3 + (g.length : Int))
theorem isClass_eq (g : List (List Int)) (c : Int) : isClass g c = (decide (0 ≤ c) && decide (c < 3 + (g.length : Int))) := rfl
theorem s_ref03_class (g : List (List Int)) (c : Int) (hb : g.length ≤ 1000000000) : V.Spec Try.prog Fc.ref03_class [rows g, V.int c] [] (V.bool (isClass g c)) [] := by
  refine V.Spec.enter Try.tabOK Try.mixed Fn.ref03_class rfl rfl rfl fun B hB => ?_
  repeat' (first
   | (with_reducible refine OL.st ?_)
   | (with_reducible refine TC.region ?_)
   | (with_reducible refine TC.seq ?_)
   | (with_reducible refine OL.nil ?_)
   | (with_reducible refine TX.thenN ?_)
   | (with_reducible refine OL.gOn ?_)
   | (with_reducible refine OL.gOff ?_)
   | (with_reducible refine OL.gD ?_ ?_ <;> (intro hc; try (exfalso; omega)))
   | (with_reducible refine TC.ret ?_)
   | fail)
  all_goals
    refine TX.rt1 [] (.bool ?_)
    simp only [isClass]
    simp
    omega
theorem s_ref03_parents (g : List (List Int)) (c : Int) (_h0 : 0 ≤ c) (h1 : c < 3 + (g.length : Int)) (hb : g.length ≤ 1000000000) : V.Spec Try.prog Fc.ref03_parents [rows g, V.int c] [] (ints (pOf g c)) [] := by
  refine V.Spec.enter Try.tabOK Try.mixed Fn.ref03_parents rfl rfl rfl fun B hB => ?_
  repeat' (first
   | (with_reducible refine OL.st ?_)
   | (with_reducible refine TC.region ?_)
   | (with_reducible refine TC.seq ?_)
   | (with_reducible refine OL.nil ?_)
   | (with_reducible refine TX.thenN ?_)
   | (with_reducible refine TC.skip ?_)
   | (with_reducible refine TC.ifD ?_ ?_ <;> (intro hc; try (exfalso; omega)))
   | (with_reducible refine TC.ret ?_)
   | (with_reducible refine TX.thenR ?_)
   | fail)
  · rw [pOf, if_pos (by omega)]
    exact TX.rt1 [] (.nil (by decide))
  · rw [pOf, if_neg (by omega), getD_lt (by omega)]
    exact TX.rt1 [] (.ren rfl)
theorem s_ref03_without (l : List Int) (n : Int) (hb : l.length ≤ 1000000000) : V.Spec Try.prog Fc.ref03_without [ints l, V.int n] [] (.hs 0) [.gs false Tc.int 1 none ((without l n).map V.int)] := by
  refine V.Spec.enter Try.tabOK Try.mixed Fn.ref03_without rfl rfl rfl fun B hB => ?_
  repeat' (first
   | (with_reducible refine OL.st ?_)
   | (with_reducible refine TC.region ?_)
   | (with_reducible refine TC.seq ?_)
   | (with_reducible refine OL.nil ?_)
   | (with_reducible refine TX.thenN ?_)
   | (with_reducible refine TC.block ?_)
   | fail)
  refine TC.adp 5 Tc.int 1 ?_
  refine TC.lp (fun k : Nat => [(0, ints l), (1, V.int n), (5, .hs 0), (6, V.int k)]) (fun k => [.gs false Tc.int 1 none ((without (l.take k) n).map V.int)]) (fun k => k ≤ l.length) (fun k => l.length - k) 0 [0] (Nat.zero_le _) ?_
  rintro k hk
  have hfl : (without (l.take k) n).length ≤ l.length := Nat.le_trans (List.length_filter_le _ _) (by simp; omega)
  repeat' (first
   | (with_reducible refine OL.st ?_)
   | (with_reducible refine OL.lit ?_)
   | (with_reducible refine OL.appO ?_)
   | (with_reducible refine TC.region ?_)
   | (with_reducible refine TC.seq ?_)
   | (with_reducible refine OL.nil ?_)
   | (with_reducible refine TX.thenN ?_)
   | (with_reducible refine TC.block ?_)
   | (with_reducible refine TC.skip ?_)
   | (with_reducible refine TX.blkN ?_)
   | (with_reducible refine TC.exit ?_)
   | (with_reducible refine TX.hit ?_)
   | (with_reducible refine TX.thenX ?_)
   | (with_reducible refine TC.ifD ?_ ?_ <;> (intro hc; try (exfalso; omega)))
   | (with_reducible refine TC.ret ?_)
   | fail)
  · refine TX.eqη (η' := [.dead, .dead, .gs false Tc.int 1 none ((without (l.take (k+1)) n).map V.int)]) ?_ ?_
    · rw [without, without, filter_take_t (by omega) (by simpa using hc)]; simp
    · exact TX.rd (k + 1) [2] (by omega) (by omega)
  · refine TX.eqη (η' := [.gs false Tc.int 1 none ((without (l.take (k+1)) n).map V.int)]) ?_ ?_
    · rw [without, without, filter_take_f (by omega) (by simpa using hc)]
    · exact TX.rd (k + 1) [0] (by omega) (by omega)
  · rw [take_all (by omega)]
    exact TX.rt1 [0] (.ren rfl)
theorem s_ref03_free (all : List (List Int)) (c : Int) : V.Spec Try.prog Fc.ref03_free [rows all, V.int c] [] (V.bool (free all c)) [] := by
  refine V.Spec.enter Try.tabOK Try.mixed Fn.ref03_free rfl rfl rfl fun B hB => ?_
  refine TC.bl 0 fun hl => ?_
  repeat' (first
   | (with_reducible refine OL.st ?_)
   | (with_reducible refine TC.region ?_)
   | (with_reducible refine TC.seq ?_)
   | (with_reducible refine OL.nil ?_)
   | (with_reducible refine TX.thenN ?_)
   | (with_reducible refine TC.block ?_)
   | fail)
  refine TC.lp (fun k : Nat => [(0, rows all), (1, V.int c), (5, V.int k)]) (fun _ => []) (fun k => k ≤ all.length ∧ free all c = free (all.drop k) c) (fun k => all.length - k) 0 [] ⟨Nat.zero_le _, rfl⟩ ?_
  rintro k ⟨hk, hinv⟩
  repeat' (first
   | (with_reducible refine OL.st ?_)
   | (with_reducible refine TC.region ?_)
   | (with_reducible refine TC.seq ?_)
   | (with_reducible refine OL.nil ?_)
   | (with_reducible refine TX.thenN ?_)
   | (with_reducible refine TC.block ?_)
   | (with_reducible refine TC.skip ?_)
   | (with_reducible refine TX.blkN ?_)
   | (with_reducible refine TC.exit ?_)
   | (with_reducible refine TX.hit ?_)
   | (with_reducible refine TX.thenX ?_)
   | (with_reducible refine TC.ifF ?_)
   | (with_reducible refine OL.gOn ?_)
   | (with_reducible refine OL.gOff ?_)
   | (with_reducible refine TC.ifD ?_ ?_ <;> (intro hc; try (exfalso; omega)))
   | (with_reducible refine OL.gD ?_ ?_ <;> (intro hc; try (exfalso; omega)))
   | (with_reducible refine TC.ret ?_)
   | fail)
  · refine OL.c (s_ref03_Has (all[k].drop 1) c) Fn.ref03_Has ?_
    repeat' (first
     | (with_reducible refine OL.st ?_)
     | (with_reducible refine OL.nil ?_)
     | (with_reducible refine TX.thenN ?_)
     | fail)
    refine TC.ifB (fun hct => ?_) (fun hct => ?_)
    · repeat' (first
       | (with_reducible refine OL.st ?_)
       | (with_reducible refine TC.region ?_)
       | (with_reducible refine TC.seq ?_)
       | (with_reducible refine OL.nil ?_)
       | (with_reducible refine TX.thenN ?_)
       | (with_reducible refine TC.ret ?_)
       | (with_reducible refine TX.thenR ?_)
       | (with_reducible refine TX.blkR ?_)
       | fail)
      refine TX.rt1 [] (.bool ?_)
      rw [hinv, drop_cons (by omega)]
      simp only [free, List.all_cons, hct, Bool.not_true, Bool.false_and]
    · repeat' (first
       | (with_reducible refine OL.st ?_)
       | (with_reducible refine TC.region ?_)
       | (with_reducible refine OL.nil ?_)
       | (with_reducible refine TX.thenN ?_)
       | (with_reducible refine TC.skip ?_)
       | (with_reducible refine TX.blkN ?_)
       | fail)
      refine TX.rd (k + 1) [] ⟨by omega, ?_⟩ (by omega)
      rw [hinv, drop_cons (by omega)]
      simp only [free, List.all_cons, hct, Bool.not_false, Bool.true_and]
  · refine TX.rd (k + 1) [] ⟨by omega, ?_⟩ (by omega)
    rw [hinv, drop_cons (by omega)]
    have : all[k] = [] := List.eq_nil_of_length_eq_zero (by omega)
    simp [free, this]
  · refine TX.rt1 [] (.bool ?_)
    rw [hinv, drop_nil (by omega)]
    rfl
end Go.Proofs
/- The reference's merge. -/
namespace Go.Proofs
open Go Go.W Go.V
set_option maxHeartbeats 1000000 in
theorem s_ref03_merge (all0 : List (List Int)) (hb : total all0 ≤ 1000000) (hb2 : all0.length ≤ 1000000) (hpos : ∀ l ∈ all0, ∀ x ∈ l, 0 ≤ x) :
    V.Spec Try.prog Fc.ref03_merge [rows all0] [] (.tp [.hs 0, V.bool (merge all0).2]) [.gs false Tc.int 1 none ((merge all0).1.map V.int)] := by
  refine V.Spec.enter Try.tabOK Try.mixed Fn.ref03_merge rfl rfl rfl fun B hB => ?_
  repeat' (first
   | (with_reducible refine OL.st ?_)
   | (with_reducible refine TC.region ?_)
   | (with_reducible refine TC.seq ?_)
   | (with_reducible refine OL.nil ?_)
   | (with_reducible refine TX.thenN ?_)
   | (with_reducible refine TC.block ?_)
   | fail)
  refine TC.adp 4 Tc.int 1 ?_
  refine TC.lp (fun s : List (List Int) × List Int => [(0, rows s.1), (4, .hs 0)]) (fun s => [.gs false Tc.int 1 none (s.2.map V.int)]) (fun s => mergeF (total all0) all0 [] = mergeF (total s.1) s.1 s.2 ∧ s.1.length = all0.length ∧ s.2.length + total s.1 ≤ total all0 ∧ (∀ l ∈ s.1, ∀ x ∈ l, 0 ≤ x)) (fun s => total s.1) (all0, []) [0] ⟨rfl, rfl, by simp, hpos⟩ ?_
  rintro ⟨all, out⟩ ⟨hinv, hlen, htot, hp⟩
  simp only at hinv hlen htot hp ⊢
  repeat' (first
   | (with_reducible refine OL.st ?_)
   | (with_reducible refine TC.region ?_)
   | (with_reducible refine TC.seq ?_)
   | (with_reducible refine OL.nil ?_)
   | (with_reducible refine TX.thenN ?_)
   | (with_reducible refine TC.block ?_)
   | fail)
  -- the next element
  refine TC.lp (fun s : Nat × Option Int × Bool => [(0, rows all), (4, .hs 0), (5, V.int (s.2.1.getD (-1))), (6, V.bool s.2.2), (7, V.int s.1)]) (fun _ => [.gs false Tc.int 1 none (out.map V.int)])
    (fun s => s.1 ≤ all.length ∧ (s.2.1 = none → nextOf all all = nextOf all (all.drop s.1) ∧ s.2.2 = anyNE (all.take s.1)) ∧ (∀ h, s.2.1 = some h → nextOf all all = some h ∧ 0 ≤ h)) (fun s => all.length - s.1) (0, none, false) [0] ⟨Nat.zero_le _, fun _ => ⟨rfl, rfl⟩, fun h e => (by cases e)⟩ ?_
  rintro ⟨i, f, lf⟩ ⟨hi, hnone, hsome⟩
  simp only at hi hnone hsome ⊢
  cases f with
  | some h =>
    obtain ⟨hn, h0⟩ := hsome h rfl
    simp only [Option.getD_some]
    have hmn := merge_next (out := out) hn
    obtain ⟨t, hmem, _⟩ := nextOf_mem all all h hn
    have htl := total_without_lt all h t hmem
    have hin : h ∈ (h :: t) := by simp
    clear hsome hnone
    have hol : out.length ≤ 1000000 := by omega
    repeat' (first
     | (with_reducible refine OL.st ?_)
     | (with_reducible refine OL.lit ?_)
     | (with_reducible refine OL.appO ?_)
     | (with_reducible refine TC.region ?_)
     | (with_reducible refine TC.seq ?_)
     | (with_reducible refine OL.nil ?_)
     | (with_reducible refine TX.thenN ?_)
     | (with_reducible refine TC.block ?_)
     | (with_reducible refine TC.skip ?_)
     | (with_reducible refine TC.exit ?_)
     | (with_reducible refine TX.hit ?_)
     | (with_reducible refine TX.thenX ?_)
     | (with_reducible refine TC.ifF ?_)
     | (with_reducible refine OL.gOn ?_)
     | (with_reducible refine OL.gOff ?_)
     | (with_reducible refine TC.ifD ?_ ?_ <;> (intro hc; try (exfalso; omega)))
     | (with_reducible refine OL.gD ?_ ?_ <;> (intro hc; try (exfalso; omega)))
     | fail)
    all_goals
      refine TC.adp 8 Tc.Lint 1 ?_
      refine TC.lp (fun j : Nat => [(0, rows all), (4, .hs 0), (5, V.int h), (8, .hs 1), (9, V.int j)]) (fun j => [.gs false Tc.int 1 none ((out ++ [h]).map V.int), .gs false Tc.Lint 1 none (((all.take j).map (without · h)).map ints)]) (fun j => j ≤ all.length) (fun j => all.length - j) 0 [2, 3] (Nat.zero_le _) ?_
      rintro j hj
      have hlj : ∀ hl : j < all.length, all[j].length ≤ 1000000 := fun hl => Nat.le_trans (total_le (List.getElem_mem hl)) (by omega)
      repeat' (first
       | (with_reducible refine OL.st ?_)
       | (with_reducible refine TC.region ?_)
       | (with_reducible refine TC.seq ?_)
       | (with_reducible refine OL.nil ?_)
       | (with_reducible refine TX.thenN ?_)
       | (with_reducible refine TC.block ?_)
       | (with_reducible refine TC.skip ?_)
       | (with_reducible refine TX.blkN ?_)
       | (with_reducible refine TC.exit ?_)
       | (with_reducible refine TX.hit ?_)
       | (with_reducible refine TX.thenX ?_)
       | (with_reducible refine TC.ifD ?_ ?_ <;> (intro hc; try (exfalso; omega)))
       | fail)
      · refine OL.c (s_ref03_without all[j] h (by have := hlj (by omega); omega)) Fn.ref03_without ?_
        repeat' (first
         | (with_reducible refine OL.st ?_)
         | (with_reducible refine OL.litV ?_)
         | (with_reducible refine OL.lit ?_)
         | (with_reducible refine OL.appO ?_)
         | (with_reducible refine TC.region ?_)
         | (with_reducible refine OL.nil ?_)
         | (with_reducible refine TX.thenN ?_)
         | (with_reducible refine TX.blkN ?_)
         | fail)
        exact TX.rd (j + 1) [0, 4] (by omega) (by omega)
      · rw [take_all (by omega)]
        refine TX.vw 0 ?_
        refine TX.rd (all.map (without · h), out ++ [h]) [0] ⟨hinv.trans hmn, by simpa using hlen, ?_, ?_⟩ htl
        · simp only [List.length_append, List.length_singleton]
          omega
        · intro l hl' x hx
          obtain ⟨l0, hl0', rfl⟩ := List.mem_map.1 hl'
          exact hp l0 hl0' x (mem_without.1 hx).1
  | none =>
    obtain ⟨hn, hlf⟩ := hnone rfl
    simp only [Option.getD_none]
    clear hsome hnone
    refine TC.bl 0 fun hla => ?_
    repeat' (first
     | (with_reducible refine OL.st ?_)
     | (with_reducible refine TC.region ?_)
     | (with_reducible refine TC.seq ?_)
     | (with_reducible refine OL.nil ?_)
     | (with_reducible refine TX.thenN ?_)
     | (with_reducible refine TC.block ?_)
     | (with_reducible refine TC.skip ?_)
     | (with_reducible refine TX.blkN ?_)
     | (with_reducible refine TC.exit ?_)
     | (with_reducible refine TX.hit ?_)
     | (with_reducible refine TX.thenX ?_)
     | (with_reducible refine TC.ifT ?_)
     | (with_reducible refine TC.ifF ?_)
     | (with_reducible refine OL.gOn ?_)
     | (with_reducible refine OL.gOff ?_)
     | (with_reducible refine TC.ifD ?_ ?_ <;> (intro hc; try (exfalso; omega)))
     | (with_reducible refine OL.gD ?_ ?_ <;> (intro hc; try (exfalso; omega)))
     | (with_reducible refine TC.ret ?_)
     | (with_reducible refine TX.thenR ?_)
     | (with_reducible refine TX.blkR ?_)
     | fail)
    · refine OL.c (s_ref03_free all all[i][0]) Fn.ref03_free ?_
      have hne : all[i] ≠ [] := fun e => by rw [e] at hc; simp at hc
      have hne' : all[i].isEmpty = false := by simpa using hne
      repeat' (first | (with_reducible refine OL.nil ?_) | (with_reducible refine TX.thenN ?_) | fail)
      refine TC.ifB (fun hf => ?_) (fun hf => ?_)
      · repeat' (first
         | (with_reducible refine OL.st ?_)
         | (with_reducible refine TC.region ?_)
         | (with_reducible refine OL.nil ?_)
         | (with_reducible refine TX.thenN ?_)
         | (with_reducible refine TX.blkN ?_)
         | fail)
        refine TX.rd (i + 1, some all[i][0], true) [0] ⟨by simp only; omega, fun e => (by cases e), fun h e => ?_⟩ (by simp only; omega)
        cases e
        refine ⟨?_, hp _ (List.getElem_mem _) _ (List.getElem_mem _)⟩
        rw [hn, drop_cons (by omega), nextOf_get_t (by omega) hf]
      · repeat' (first
         | (with_reducible refine OL.st ?_)
         | (with_reducible refine TC.region ?_)
         | (with_reducible refine OL.nil ?_)
         | (with_reducible refine TX.thenN ?_)
         | (with_reducible refine TC.skip ?_)
         | (with_reducible refine TX.blkN ?_)
         | fail)
        refine TX.rd (i + 1, none, true) [0] ⟨by simp only; omega, fun _ => ⟨?_, ?_⟩, fun h e => (by cases e)⟩ (by simp only; omega)
        · rw [hn, drop_cons (by omega), nextOf_get_f (by omega) hf]
        · simp only
          rw [take_succ (by omega), anyNE_snoc]
          simp [hne']
    · have he : all[i] = [] := List.eq_nil_of_length_eq_zero (by omega)
      refine TX.rd (i + 1, none, lf) [0] ⟨by simp only; omega, fun _ => ⟨?_, ?_⟩, fun h e => (by cases e)⟩ (by simp only; omega)
      · rw [hn, drop_cons (by omega), he, nextOf_nil]
      · simp only
        rw [take_succ (by omega), anyNE_snoc, he, hlf]
        simp
    · have hn0 : nextOf all all = none := by rw [hn, drop_nil (by omega)]; rfl
      have hmn := merge_none (out := out) hn0
      rw [take_all (by omega)] at hlf
      rw [merge, hinv, hmn, hlf]
      exact TX.rt2 [0] (.ren rfl) (.ren rfl)
end Go.Proofs
/- The reference's lists, OrdersOf, ListsOf, LinOf, Good, Lin. -/
namespace Go.Proofs
open Go Go.W Go.V
def lsR : Option (List (List Int)) → AV
  | some _ => .tp [.hs 0, V.bool true]
  | none => .tp [ints [], V.bool false]
def lsE : Option (List (List Int)) → V.Eta
  | some all => [.gs false Tc.Lint 1 none (all.map ints)]
  | none => []
set_option maxHeartbeats 1000000 in
theorem s_ref03_lists (g ords : List (List Int)) (c : Int) (h0 : 0 ≤ c) (h1 : c < 3 + (g.length : Int)) (hb : g.length ≤ 1000000)
    (hps : ∀ p ∈ pOf g c, 0 ≤ p ∧ p < ords.length) (hol : ∀ o ∈ ords, o.length ≤ 1000000) (hpl : (pOf g c).length ≤ 1000000) :
    V.Spec Try.prog Fc.ref03_lists [rows g, rows ords, V.int c] [] (lsR (listsOf ords (pOf g c))) (lsE (listsOf ords (pOf g c))) := by
  refine V.Spec.enter Try.tabOK Try.mixed Fn.ref03_lists rfl rfl rfl fun B hB => ?_
  repeat' (first
   | (with_reducible refine OL.st ?_)
   | (with_reducible refine TC.region ?_)
   | (with_reducible refine TC.seq ?_)
   | (with_reducible refine OL.nil ?_)
   | (with_reducible refine TX.thenN ?_)
   | fail)
  refine OL.c (s_ref03_parents g c h0 h1 (by omega)) Fn.ref03_parents ?_
  repeat' (first
   | (with_reducible refine OL.st ?_)
   | (with_reducible refine TC.region ?_)
   | (with_reducible refine TC.seq ?_)
   | (with_reducible refine OL.nil ?_)
   | (with_reducible refine TX.thenN ?_)
   | (with_reducible refine TC.block ?_)
   | fail)
  generalize hpe : pOf g c = ps at *
  refine TC.adp 8 Tc.Lint 1 ?_
  refine TC.lp (fun i : Nat => [(1, rows ords), (8, .hs 0), (9, ints ps), (10, V.int i)]) (fun i => [.gs false Tc.Lint 1 none (((ps.take i).map fun p => bare (at_ ords p)).map ints)]) (fun i => i ≤ ps.length ∧ (ps.take i).all (fun p => !(at_ ords p).isEmpty) = true) (fun i => ps.length - i) 0 [0] ⟨Nat.zero_le _, rfl⟩ ?_
  rintro i ⟨hi, hall⟩
  by_cases hlt : i < ps.length
  · have hpi := hps ps[i] (List.getElem_mem _)
    have hpt : ps[i].toNat < ords.length := by omega
    have hat : at_ ords ps[i] = ords[ps[i].toNat] := by rw [at_, getD_lt hpt]
    have hlo := hol _ (List.getElem_mem hpt)
    repeat' (first
     | (with_reducible refine OL.st ?_)
     | (with_reducible refine TC.region ?_)
     | (with_reducible refine TC.seq ?_)
     | (with_reducible refine OL.nil ?_)
     | (with_reducible refine TX.thenN ?_)
     | (with_reducible refine TC.block ?_)
     | (with_reducible refine TC.skip ?_)
     | (with_reducible refine TC.ifD ?_ ?_ <;> (intro hc; try (exfalso; omega)))
     | (with_reducible refine TC.ret ?_)
     | (with_reducible refine TX.thenR ?_)
     | (with_reducible refine TX.blkR ?_)
     | fail)
    · have he : at_ ords ps[i] = [] := by rw [hat]; exact List.eq_nil_of_length_eq_zero (by omega)
      have : listsOf ords ps = none := by
        rw [listsOf, if_neg]
        intro h
        have := List.all_eq_true.1 h ps[i] (List.getElem_mem _)
        rw [he] at this
        cases this
      rw [this]
      exact TX.rt2 [] (.nil (by decide)) (.ren rfl)
    · have hne : (at_ ords ps[i]).isEmpty = false := by
        rw [hat]
        cases hq : ords[ps[i].toNat] with
        | nil => rw [hq] at hc; simp at hc
        | cons _ _ => rfl
      refine OL.c (s_ref03_without (ords[ps[i].toNat]) 0 (by omega)) Fn.ref03_without ?_
      repeat' (first
       | (with_reducible refine OL.st ?_)
       | (with_reducible refine OL.litV ?_)
       | (with_reducible refine OL.lit ?_)
       | (with_reducible refine OL.appO ?_)
       | (with_reducible refine TC.region ?_)
       | (with_reducible refine OL.nil ?_)
       | (with_reducible refine TX.thenN ?_)
       | (with_reducible refine TX.blkN ?_)
       | fail)
      have e : (((ps.take i).map fun p => bare (at_ ords p)).map ints) ++ [ints (without ords[ps[i].toNat] 0)] = (((ps.take (i + 1)).map fun p => bare (at_ ords p)).map ints) := by
        rw [take_succ hlt]; simp only [List.map_append, List.map_cons, List.map_nil, hat]; rfl
      refine TX.rd (i + 1) [3] ⟨by omega, ?_⟩ (by omega)
      rw [take_succ hlt, List.all_append, hall]
      simp [hne]
  · repeat' (first
     | (with_reducible refine OL.st ?_)
     | (with_reducible refine OL.lit ?_)
     | (with_reducible refine OL.appO ?_)
     | (with_reducible refine TC.region ?_)
     | (with_reducible refine TC.seq ?_)
     | (with_reducible refine OL.nil ?_)
     | (with_reducible refine TX.thenN ?_)
     | (with_reducible refine TC.exit ?_)
     | (with_reducible refine TX.hit ?_)
     | (with_reducible refine TX.thenX ?_)
     | (with_reducible refine TC.ifD ?_ ?_ <;> (intro hc; try (exfalso; omega)))
     | (with_reducible refine TC.ret ?_)
     | fail)
    rw [take_all (by omega)] at hall ⊢
    rw [listsOf, if_pos hall]
    exact TX.rt2 [2] (.ren rfl) (.ren rfl)
set_option maxHeartbeats 1000000 in
theorem s_ref03_OrdersOf (g : List (List Int)) (hf : fine g = true) : V.Spec Try.prog Fc.ref03_OrdersOf [rows g] [] (.hs 0) [.gs true Tc.Lint 1 none ((orders g).map ints)] := by
  refine V.Spec.enter Try.tabOK Try.mixed Fn.ref03_OrdersOf rfl rfl rfl fun B hB => ?_
  have h16 := fine_len hf
  repeat' (first
   | (with_reducible refine OL.st ?_)
   | (with_reducible refine OL.litV ?_)
   | (with_reducible refine OL.lit ?_)
   | (with_reducible refine TC.region ?_)
   | (with_reducible refine TC.seq ?_)
   | (with_reducible refine OL.nil ?_)
   | (with_reducible refine TX.thenN ?_)
   | (with_reducible refine TC.block ?_)
   | fail)
  refine TC.frz 1 ?_
  refine TC.lp (fun s : Nat × List (List Int) => [(0, rows g), (3, .hs 0), (4, V.int s.1)]) (fun s => [.gs true Tc.Lint 1 none (s.2.map ints)]) (fun s => s.2.length = s.1 ∧ 0 < s.1 ∧ s.1 ≤ 3 + g.length ∧ orders g = ordersF s.2 ((parentsOf g).drop s.1) ∧ OrdOK s.2) (fun s => 3 + g.length - s.1) (1, [[0]]) [1] ⟨rfl, Nat.one_pos, Nat.le_add_right_of_le (by omega), rfl, OrdOK.start⟩ ?_
  rintro ⟨c, acc⟩ ⟨hal, hc0, hcl, hord, hok⟩
  simp only at hal hc0 hcl hord hok ⊢
  have hsm := hok.small (by omega)
  by_cases hlt : c < 3 + g.length
  · obtain ⟨hp1, hp2, hp3⟩ := fine_pOf hf (c := (c : Int)) (by omega)
    rw [parentsOf_drop hlt, ordersF_cons] at hord
    have hok' := orderOf_ok (ps := pOf g c) hok (fun p hp => by have := hp2 p hp; omega) (by omega)
    have hs := s_ref03_lists g acc c (by omega) (by omega) (by omega) (fun p hp => by have := hp2 p hp; omega) (fun o ho => by have := hsm o ho; omega) (by omega)
    cases hls : listsOf acc (pOf g c) with
    | none =>
      have ho : orderOf acc (pOf g c) acc.length = [] := by rw [orderOf, hls]
      rw [ho] at hord hok'
      rw [hls] at hs
      simp only [lsR, lsE] at hs
      repeat' (first
       | (with_reducible refine OL.st ?_)
       | (with_reducible refine TC.region ?_)
       | (with_reducible refine TC.seq ?_)
       | (with_reducible refine OL.nil ?_)
       | (with_reducible refine TX.thenN ?_)
       | (with_reducible refine TC.block ?_)
       | (with_reducible refine TC.skip ?_)
       | (with_reducible refine TC.ifD ?_ ?_ <;> (intro hc; try (exfalso; omega)))
       | fail)
      refine OL.vwA 1 ?_
      refine OL.c hs Fn.ref03_lists ?_
      repeat' (first
       | (with_reducible refine OL.st ?_)
       | (with_reducible refine OL.litN ?_)
       | (with_reducible refine OL.lit ?_)
       | (with_reducible refine OL.appO ?_)
       | (with_reducible refine TC.region ?_)
       | (with_reducible refine TC.seq ?_)
       | (with_reducible refine OL.nil ?_)
       | (with_reducible refine TX.thenN ?_)
       | (with_reducible refine TC.skip ?_)
       | (with_reducible refine TX.blkN ?_)
       | (with_reducible refine TC.ifF ?_)
       | fail)
      exact TX.rd (c + 1, acc ++ [[]]) [2] ⟨by simp [hal], by simp only; omega, by simp only; omega, hord, hok.snoc hok'⟩ (by simp only; omega)
    | some all =>
      obtain ⟨hb1, hb2, hb3⟩ := listsOf_bounds hls hok (by omega) (by omega) (fun p hp => by have := hp2 p hp; omega)
      rw [hls] at hs
      simp only [lsR, lsE] at hs
      have hml := merge_length all
      have ho : orderOf acc (pOf g c) acc.length = if (merge all).2 then (acc.length : Int) :: ((merge all).1 ++ [0]) else [] := by rw [orderOf, hls]
      repeat' (first
       | (with_reducible refine OL.st ?_)
       | (with_reducible refine TC.region ?_)
       | (with_reducible refine TC.seq ?_)
       | (with_reducible refine OL.nil ?_)
       | (with_reducible refine TX.thenN ?_)
       | (with_reducible refine TC.block ?_)
       | (with_reducible refine TC.skip ?_)
       | (with_reducible refine TC.ifD ?_ ?_ <;> (intro hc; try (exfalso; omega)))
       | fail)
      refine OL.vwA 1 ?_
      refine OL.c hs Fn.ref03_lists ?_
      repeat' (first
       | (with_reducible refine OL.st ?_)
       | (with_reducible refine TC.region ?_)
       | (with_reducible refine TC.seq ?_)
       | (with_reducible refine OL.nil ?_)
       | (with_reducible refine TX.thenN ?_)
       | (with_reducible refine TC.ifT ?_)
       | fail)
      refine OL.vwA 0 ?_
      refine OL.c (s_ref03_merge all (by omega) (by omega) hb3) Fn.ref03_merge ?_
      repeat' (first
       | (with_reducible refine OL.st ?_)
       | (with_reducible refine TC.region ?_)
       | (with_reducible refine TC.seq ?_)
       | (with_reducible refine OL.nil ?_)
       | (with_reducible refine TX.thenN ?_)
       | fail)
      refine TC.ifB (fun hmb => ?_) (fun hmb => ?_)
      · rw [hmb] at ho
        simp only [if_true] at ho
        rw [ho, hal] at hord hok'
        repeat' (first
         | (with_reducible refine OL.st ?_)
         | (with_reducible refine OL.litV ?_)
         | (with_reducible refine OL.lit ?_)
         | (with_reducible refine OL.appO ?_)
         | (with_reducible refine TC.region ?_)
         | (with_reducible refine OL.nil ?_)
         | (with_reducible refine TX.thenN ?_)
         | (with_reducible refine TX.blkN ?_)
         | fail)
        exact TX.rd (c + 1, acc ++ [(c : Int) :: ((merge all).1 ++ [0])]) [8] ⟨by simp [hal], by simp only; omega, by simp only; omega, hord, hok.snoc (by rw [hal]; exact hok')⟩ (by simp only; omega)
      · rw [hmb] at ho
        simp only [Bool.false_eq_true, if_false] at ho
        rw [ho] at hord hok'
        repeat' (first
         | (with_reducible refine OL.st ?_)
         | (with_reducible refine OL.litN ?_)
         | (with_reducible refine OL.lit ?_)
         | (with_reducible refine OL.appO ?_)
         | (with_reducible refine TC.region ?_)
         | (with_reducible refine OL.nil ?_)
         | (with_reducible refine TX.thenN ?_)
         | (with_reducible refine TC.skip ?_)
         | (with_reducible refine TX.blkN ?_)
         | fail)
        exact TX.rd (c + 1, acc ++ [[]]) [4] ⟨by simp [hal], by simp only; omega, by simp only; omega, hord, hok.snoc hok'⟩ (by simp only; omega)
  · repeat' (first
     | (with_reducible refine OL.st ?_)
     | (with_reducible refine TC.region ?_)
     | (with_reducible refine TC.seq ?_)
     | (with_reducible refine OL.nil ?_)
     | (with_reducible refine TX.thenN ?_)
     | (with_reducible refine TC.exit ?_)
     | (with_reducible refine TX.hit ?_)
     | (with_reducible refine TX.thenX ?_)
     | (with_reducible refine TC.ifD ?_ ?_ <;> (intro hc; try (exfalso; omega)))
     | (with_reducible refine TC.ret ?_)
     | fail)
    rw [hord, drop_nil (by rw [parentsOf_length]; omega)]
    exact TX.rt1 [0] (.ren rfl)
end Go.Proofs
