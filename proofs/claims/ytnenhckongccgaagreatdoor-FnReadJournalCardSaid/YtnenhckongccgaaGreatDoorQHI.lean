/- Tab, ZA, ShlA, DN, ShlE, NUM, KGA, PH, KGE, KGH, KGM: laid into one text. -/
import Derived.Test.YtnenhckongccgaaGreatDoorQHD
import Derived.Test.YtnenhckongccgaaGreatDoorQHE
import Derived.Test.YtnenhckongccgaaGreatDoorQHF
import Derived.Test.YtnenhckongccgaaGreatDoorRows
import Derived.Shelf.Lays
import Derived.Shelf.Strconv.Itoa3
import Derived.Shelf.Strings.OnBuilder
import Derived.Test.YtnenhckongccgaaGreatDoorProg
import Derived.Shelf.LaysM
import Derived.Lib.AppendIntMem
import Derived.Lib.ItoaMem

namespace Go.Proofs.YtnenhckongccgaaGreatDoor
set_option maxRecDepth 10000
theorem allN {α : Type} {Q : α → Prop} : ∀ p ∈ ([] : List α), Q p := fun p hp => by cases hp
theorem allC {α : Type} {Q : α → Prop} {x : α} {l : List α} (h : Q x) (h' : ∀ p ∈ l, Q p) : ∀ p ∈ x :: l, Q p := fun p hp => by
  rcases List.mem_cons.1 hp with rfl | hp
  · exact h
  · exact h' p hp
def T0 : Tab := ⟨[(2, (false, 1)), (3, (false, 1)), (4, (false, 1)), (5, (false, 1)), (9, (false, 1)), (12, (false, 1)), (13, (true, 2)), (19, (true, 1)), (21, (false, 1)), (22, (false, 1)), (23, (false, 1)), (24, (true, 5)), (25, (true, 5)), (33, (false, 1)), (38, (false, 1)), (39, (true, 5)), (40, (true, 5)), (48, (false, 1)), (55, (true, 4)), (56, (true, 4)), (57, (true, 6)), (58, (true, 6)), (64, (false, 1)), (81, (false, 1)), (101, (false, 1)), (102, (true, 2)), (103, (true, 2)), (110, (true, 2)), (111, (true, 2)), (115, (false, 1)), (131, (true, 4)), (133, (true, 4)), (134, (true, 4)), (140, (false, 1)), (156, (true, 20)), (158, (false, 1)), (159, (false, 1)), (161, (true, 3)), (167, (false, 1)), (171, (false, 1)), (172, (false, 1)), (175, (false, 1)), (179, (true, 24)), (180, (false, 1)), (186, (false, 1)), (188, (true, 8)), (189, (false, 1)), (191, (false, 1)), (197, (true, 3)), (198, (true, 3)), (202, (true, 20)), (209, (true, 1)), (216, (true, 32)), (217, (true, 64)), (222, (true, 2)), (223, (true, 2)), (224, (true, 32)), (227, (false, 1)), (234, (false, 1)), (239, (false, 1))],
  [(13000, (0, false, 1)), (13001, (1, false, 1)), (19000, (0, false, 1)), (24000, (0, false, 1)), (24001, (1, false, 1)), (24002, (2, false, 1)), (24003, (3, false, 1)), (24004, (4, false, 1)), (25000, (0, false, 1)), (25001, (1, false, 1)), (25002, (2, false, 1)), (25003, (3, false, 1)), (25004, (4, false, 1)), (39000, (0, false, 1)), (39001, (1, false, 1)), (39002, (2, false, 1)), (39003, (3, false, 1)), (39004, (4, false, 1)), (40000, (0, false, 1)), (40001, (1, false, 1)), (40002, (2, false, 1)), (40003, (3, false, 1)), (40004, (4, false, 1)), (55000, (0, false, 1)), (55001, (1, false, 1)), (55002, (2, false, 1)), (55003, (3, false, 1)), (56000, (0, false, 1)), (56001, (1, false, 1)), (56002, (2, false, 1)), (56003, (3, false, 1)), (57000, (0, false, 1)), (57001, (1, false, 1)), (57002, (2, true, 4)), (58000, (0, false, 1)), (58001, (1, false, 1)), (58002, (2, true, 4)), (102000, (0, false, 1)), (102001, (1, false, 1)), (103000, (0, false, 1)), (103001, (1, false, 1)), (110000, (0, false, 1)), (110001, (1, false, 1)), (111000, (0, false, 1)), (111001, (1, false, 1)), (131000, (0, false, 1)), (131001, (1, false, 1)), (131002, (2, false, 1)), (131003, (3, false, 1)), (133000, (0, false, 1)), (133001, (1, false, 1)), (133002, (2, false, 1)), (133003, (3, false, 1)), (134000, (0, false, 1)), (134001, (1, false, 1)), (134002, (2, false, 1)), (134003, (3, false, 1)), (197000, (0, false, 1)), (197001, (1, false, 1)), (197002, (2, false, 1)), (198000, (0, false, 1)), (198001, (1, false, 1)), (198002, (2, false, 1)), (209000, (0, false, 1)), (222000, (0, false, 1)), (222001, (1, false, 1)), (223000, (0, false, 1)), (223001, (1, false, 1))],
  [(22, (none, 5, false, 1, 1)), (23, (none, 56, true, 4, 32)), (33, (none, 9, false, 1, 16)), (38, (none, 131, true, 4, 32)), (48, (none, 58, true, 6, 48)), (81, (none, 3, false, 1, 8)), (156, (some 5, 134, true, 4, 40)), (159, (none, 158, false, 1, 8)), (161, (some 3, 3, false, 1, 8)), (167, (none, 23, false, 1, 24)), (179, (some 24, 5, false, 1, 1)), (188, (some 8, 3, false, 1, 8)), (189, (none, 4, false, 1, 1)), (202, (some 20, 180, false, 1, 8)), (216, (some 32, 5, false, 1, 1)), (217, (some 64, 5, false, 1, 1)), (224, (some 16, 223, true, 2, 2))],
  [(2, [.int .i64 0]), (3, [.int .i64 0]), (4, [.bool false]), (5, [.int .u8 0]), (9, [.string ByteArray.empty]), (12, [.int .u64 0]), (13, [.string ByteArray.empty, .int .u64 0]), (19, [.pointer none]), (21, [.int .i32 0]), (22, [.slice none 0 0]), (23, [.slice none 0 0]), (24, [.int .i64 0, .slice none 0 0, .int .i64 0, .int .i64 0, .int .i64 0]), (25, [.int .i64 0, .slice none 0 0, .int .i64 0, .int .i64 0, .int .i64 0]), (33, [.slice none 0 0]), (38, [.slice none 0 0]), (39, [.int .i64 0, .slice none 0 0, .int .i64 0, .int .i64 0, .int .i64 0]), (40, [.int .i64 0, .slice none 0 0, .int .i64 0, .int .i64 0, .int .i64 0]), (48, [.slice none 0 0]), (55, [.int .i64 0, .int .i64 0, .int .i64 0, .int .i64 0]), (56, [.int .i64 0, .int .i64 0, .int .i64 0, .int .i64 0]), (57, [.int .i64 0, .int .i64 0, .int .i64 0, .int .i64 0, .int .i64 0, .int .i64 0]), (58, [.int .i64 0, .int .i64 0, .int .i64 0, .int .i64 0, .int .i64 0, .int .i64 0]), (64, [.pointer none]), (81, [.slice none 0 0]), (101, [.pointer none]), (102, [.pointer none, .slice none 0 0]), (103, [.pointer none, .slice none 0 0]), (110, [.slice none 0 0, .int .i64 0]), (111, [.slice none 0 0, .int .i64 0]), (131, [.int .i64 0, .int .i64 0, .int .i64 0, .int .i64 0]), (133, [.string ByteArray.empty, .int .i64 0, .int .i64 0, .int .i64 0]), (134, [.string ByteArray.empty, .int .i64 0, .int .i64 0, .int .i64 0]), (140, [.pointer none]), (156, [.string ByteArray.empty, .int .i64 0, .int .i64 0, .int .i64 0, .string ByteArray.empty, .int .i64 0, .int .i64 0, .int .i64 0, .string ByteArray.empty, .int .i64 0, .int .i64 0, .int .i64 0, .string ByteArray.empty, .int .i64 0, .int .i64 0, .int .i64 0, .string ByteArray.empty, .int .i64 0, .int .i64 0, .int .i64 0]), (158, [.pointer none]), (159, [.slice none 0 0]), (161, [.int .i64 0, .int .i64 0, .int .i64 0]), (167, [.slice none 0 0]), (171, [.int .u64 0]), (172, [.int .i64 0]), (175, [.pointer none]), (179, [.int .u8 0, .int .u8 0, .int .u8 0, .int .u8 0, .int .u8 0, .int .u8 0, .int .u8 0, .int .u8 0, .int .u8 0, .int .u8 0, .int .u8 0, .int .u8 0, .int .u8 0, .int .u8 0, .int .u8 0, .int .u8 0, .int .u8 0, .int .u8 0, .int .u8 0, .int .u8 0, .int .u8 0, .int .u8 0, .int .u8 0, .int .u8 0]), (180, [.int .u64 0]), (186, [.nilFunc]), (188, [.int .i64 0, .int .i64 0, .int .i64 0, .int .i64 0, .int .i64 0, .int .i64 0, .int .i64 0, .int .i64 0]), (189, [.slice none 0 0]), (191, [.int .u32 0]), (197, [.string ByteArray.empty, .string ByteArray.empty, .nilIface]), (198, [.string ByteArray.empty, .string ByteArray.empty, .nilIface]), (202, [.int .u64 0, .int .u64 0, .int .u64 0, .int .u64 0, .int .u64 0, .int .u64 0, .int .u64 0, .int .u64 0, .int .u64 0, .int .u64 0, .int .u64 0, .int .u64 0, .int .u64 0, .int .u64 0, .int .u64 0, .int .u64 0, .int .u64 0, .int .u64 0, .int .u64 0, .int .u64 0]), (209, [.string ByteArray.empty]), (216, [.int .u8 0, .int .u8 0, .int .u8 0, .int .u8 0, .int .u8 0, .int .u8 0, .int .u8 0, .int .u8 0, .int .u8 0, .int .u8 0, .int .u8 0, .int .u8 0, .int .u8 0, .int .u8 0, .int .u8 0, .int .u8 0, .int .u8 0, .int .u8 0, .int .u8 0, .int .u8 0, .int .u8 0, .int .u8 0, .int .u8 0, .int .u8 0, .int .u8 0, .int .u8 0, .int .u8 0, .int .u8 0, .int .u8 0, .int .u8 0, .int .u8 0, .int .u8 0]), (217, [.int .u8 0, .int .u8 0, .int .u8 0, .int .u8 0, .int .u8 0, .int .u8 0, .int .u8 0, .int .u8 0, .int .u8 0, .int .u8 0, .int .u8 0, .int .u8 0, .int .u8 0, .int .u8 0, .int .u8 0, .int .u8 0, .int .u8 0, .int .u8 0, .int .u8 0, .int .u8 0, .int .u8 0, .int .u8 0, .int .u8 0, .int .u8 0, .int .u8 0, .int .u8 0, .int .u8 0, .int .u8 0, .int .u8 0, .int .u8 0, .int .u8 0, .int .u8 0, .int .u8 0, .int .u8 0, .int .u8 0, .int .u8 0, .int .u8 0, .int .u8 0, .int .u8 0, .int .u8 0, .int .u8 0, .int .u8 0, .int .u8 0, .int .u8 0, .int .u8 0, .int .u8 0, .int .u8 0, .int .u8 0, .int .u8 0, .int .u8 0, .int .u8 0, .int .u8 0, .int .u8 0, .int .u8 0, .int .u8 0, .int .u8 0, .int .u8 0, .int .u8 0, .int .u8 0, .int .u8 0, .int .u8 0, .int .u8 0, .int .u8 0, .int .u8 0]), (222, [.int .u8 0, .int .u8 0]), (223, [.int .u8 0, .int .u8 0]), (224, [.int .u8 0, .int .u8 0, .int .u8 0, .int .u8 0, .int .u8 0, .int .u8 0, .int .u8 0, .int .u8 0, .int .u8 0, .int .u8 0, .int .u8 0, .int .u8 0, .int .u8 0, .int .u8 0, .int .u8 0, .int .u8 0, .int .u8 0, .int .u8 0, .int .u8 0, .int .u8 0, .int .u8 0, .int .u8 0, .int .u8 0, .int .u8 0, .int .u8 0, .int .u8 0, .int .u8 0, .int .u8 0, .int .u8 0, .int .u8 0, .int .u8 0, .int .u8 0]), (227, [.int .i64 0]), (234, [.int .u64 0]), (239, [.pointer none])],
  [(13, ([.string ByteArray.empty, .int .u64 0], some [(0, 1), (1, 1)], 0)), (19, ([.pointer none], some [(0, 1)], 0)), (24, ([.int .i64 0, .slice none 0 0, .int .i64 0, .int .i64 0, .int .i64 0], some [(0, 1), (1, 1), (2, 1), (3, 1), (4, 1)], 0)), (25, ([.int .i64 0, .slice none 0 0, .int .i64 0, .int .i64 0, .int .i64 0], some [(0, 1), (1, 1), (2, 1), (3, 1), (4, 1)], 0)), (39, ([.int .i64 0, .slice none 0 0, .int .i64 0, .int .i64 0, .int .i64 0], some [(0, 1), (1, 1), (2, 1), (3, 1), (4, 1)], 0)), (40, ([.int .i64 0, .slice none 0 0, .int .i64 0, .int .i64 0, .int .i64 0], some [(0, 1), (1, 1), (2, 1), (3, 1), (4, 1)], 0)), (55, ([.int .i64 0, .int .i64 0, .int .i64 0, .int .i64 0], some [(0, 1), (1, 1), (2, 1), (3, 1)], 0)), (56, ([.int .i64 0, .int .i64 0, .int .i64 0, .int .i64 0], some [(0, 1), (1, 1), (2, 1), (3, 1)], 0)), (57, ([.int .i64 0, .int .i64 0, .int .i64 0, .int .i64 0, .int .i64 0, .int .i64 0], some [(0, 1), (1, 1), (2, 4)], 0)), (58, ([.int .i64 0, .int .i64 0, .int .i64 0, .int .i64 0, .int .i64 0, .int .i64 0], some [(0, 1), (1, 1), (2, 4)], 0)), (102, ([.pointer none, .slice none 0 0], some [(0, 1), (1, 1)], 0)), (103, ([.pointer none, .slice none 0 0], some [(0, 1), (1, 1)], 0)), (110, ([.slice none 0 0, .int .i64 0], some [(0, 1), (1, 1)], 0)), (111, ([.slice none 0 0, .int .i64 0], some [(0, 1), (1, 1)], 0)), (131, ([.int .i64 0, .int .i64 0, .int .i64 0, .int .i64 0], some [(0, 1), (1, 1), (2, 1), (3, 1)], 0)), (133, ([.string ByteArray.empty, .int .i64 0, .int .i64 0, .int .i64 0], some [(0, 1), (1, 1), (2, 1), (3, 1)], 0)), (134, ([.string ByteArray.empty, .int .i64 0, .int .i64 0, .int .i64 0], some [(0, 1), (1, 1), (2, 1), (3, 1)], 0)), (156, ([.string ByteArray.empty, .int .i64 0, .int .i64 0, .int .i64 0, .string ByteArray.empty, .int .i64 0, .int .i64 0, .int .i64 0, .string ByteArray.empty, .int .i64 0, .int .i64 0, .int .i64 0, .string ByteArray.empty, .int .i64 0, .int .i64 0, .int .i64 0, .string ByteArray.empty, .int .i64 0, .int .i64 0, .int .i64 0], none, 4)), (161, ([.int .i64 0, .int .i64 0, .int .i64 0], none, 1)), (179, ([.int .u8 0, .int .u8 0, .int .u8 0, .int .u8 0, .int .u8 0, .int .u8 0, .int .u8 0, .int .u8 0, .int .u8 0, .int .u8 0, .int .u8 0, .int .u8 0, .int .u8 0, .int .u8 0, .int .u8 0, .int .u8 0, .int .u8 0, .int .u8 0, .int .u8 0, .int .u8 0, .int .u8 0, .int .u8 0, .int .u8 0, .int .u8 0], none, 1)), (188, ([.int .i64 0, .int .i64 0, .int .i64 0, .int .i64 0, .int .i64 0, .int .i64 0, .int .i64 0, .int .i64 0], none, 1)), (197, ([.string ByteArray.empty, .string ByteArray.empty, .nilIface], some [(0, 1), (1, 1), (2, 1)], 0)), (198, ([.string ByteArray.empty, .string ByteArray.empty, .nilIface], some [(0, 1), (1, 1), (2, 1)], 0)), (202, ([.int .u64 0, .int .u64 0, .int .u64 0, .int .u64 0, .int .u64 0, .int .u64 0, .int .u64 0, .int .u64 0, .int .u64 0, .int .u64 0, .int .u64 0, .int .u64 0, .int .u64 0, .int .u64 0, .int .u64 0, .int .u64 0, .int .u64 0, .int .u64 0, .int .u64 0, .int .u64 0], none, 1)), (209, ([.string ByteArray.empty], some [(0, 1)], 0)), (216, ([.int .u8 0, .int .u8 0, .int .u8 0, .int .u8 0, .int .u8 0, .int .u8 0, .int .u8 0, .int .u8 0, .int .u8 0, .int .u8 0, .int .u8 0, .int .u8 0, .int .u8 0, .int .u8 0, .int .u8 0, .int .u8 0, .int .u8 0, .int .u8 0, .int .u8 0, .int .u8 0, .int .u8 0, .int .u8 0, .int .u8 0, .int .u8 0, .int .u8 0, .int .u8 0, .int .u8 0, .int .u8 0, .int .u8 0, .int .u8 0, .int .u8 0, .int .u8 0], none, 1)), (217, ([.int .u8 0, .int .u8 0, .int .u8 0, .int .u8 0, .int .u8 0, .int .u8 0, .int .u8 0, .int .u8 0, .int .u8 0, .int .u8 0, .int .u8 0, .int .u8 0, .int .u8 0, .int .u8 0, .int .u8 0, .int .u8 0, .int .u8 0, .int .u8 0, .int .u8 0, .int .u8 0, .int .u8 0, .int .u8 0, .int .u8 0, .int .u8 0, .int .u8 0, .int .u8 0, .int .u8 0, .int .u8 0, .int .u8 0, .int .u8 0, .int .u8 0, .int .u8 0, .int .u8 0, .int .u8 0, .int .u8 0, .int .u8 0, .int .u8 0, .int .u8 0, .int .u8 0, .int .u8 0, .int .u8 0, .int .u8 0, .int .u8 0, .int .u8 0, .int .u8 0, .int .u8 0, .int .u8 0, .int .u8 0, .int .u8 0, .int .u8 0, .int .u8 0, .int .u8 0, .int .u8 0, .int .u8 0, .int .u8 0, .int .u8 0, .int .u8 0, .int .u8 0, .int .u8 0, .int .u8 0, .int .u8 0, .int .u8 0, .int .u8 0, .int .u8 0], none, 1)), (222, ([.int .u8 0, .int .u8 0], some [(0, 1), (1, 1)], 0)), (223, ([.int .u8 0, .int .u8 0], some [(0, 1), (1, 1)], 0)), (224, ([.int .u8 0, .int .u8 0, .int .u8 0, .int .u8 0, .int .u8 0, .int .u8 0, .int .u8 0, .int .u8 0, .int .u8 0, .int .u8 0, .int .u8 0, .int .u8 0, .int .u8 0, .int .u8 0, .int .u8 0, .int .u8 0, .int .u8 0, .int .u8 0, .int .u8 0, .int .u8 0, .int .u8 0, .int .u8 0, .int .u8 0, .int .u8 0, .int .u8 0, .int .u8 0, .int .u8 0, .int .u8 0, .int .u8 0, .int .u8 0, .int .u8 0, .int .u8 0], none, 2))]⟩
theorem T0ok : TabOk Tryz.prog T0 :=
  ⟨(allC (by kernel_rfl) (allC (by kernel_rfl) (allC (by kernel_rfl) (allC (by kernel_rfl) (allC (by kernel_rfl) (allC (by kernel_rfl) (allC (by kernel_rfl) (allC (by kernel_rfl) (allC (by kernel_rfl) (allC (by kernel_rfl) (allC (by kernel_rfl) (allC (by kernel_rfl) (allC (by kernel_rfl) (allC (by kernel_rfl) (allC (by kernel_rfl) (allC (by kernel_rfl) (allC (by kernel_rfl) (allC (by kernel_rfl) (allC (by kernel_rfl) (allC (by kernel_rfl) (allC (by kernel_rfl) (allC (by kernel_rfl) (allC (by kernel_rfl) (allC (by kernel_rfl) (allC (by kernel_rfl) (allC (by kernel_rfl) (allC (by kernel_rfl) (allC (by kernel_rfl) (allC (by kernel_rfl) (allC (by kernel_rfl) (allC (by kernel_rfl) (allC (by kernel_rfl) (allC (by kernel_rfl) (allC (by kernel_rfl) (allC (by kernel_rfl) (allC (by kernel_rfl) (allC (by kernel_rfl) (allC (by kernel_rfl) (allC (by kernel_rfl) (allC (by kernel_rfl) (allC (by kernel_rfl) (allC (by kernel_rfl) (allC (by kernel_rfl) (allC (by kernel_rfl) (allC (by kernel_rfl) (allC (by kernel_rfl) (allC (by kernel_rfl) (allC (by kernel_rfl) (allC (by kernel_rfl) (allC (by kernel_rfl) (allC (by kernel_rfl) (allC (by kernel_rfl) (allC (by kernel_rfl) (allC (by kernel_rfl) (allC (by kernel_rfl) (allC (by kernel_rfl) (allC (by kernel_rfl) (allC (by kernel_rfl) (allC (by kernel_rfl) (allC (by kernel_rfl) allN)))))))))))))))))))))))))))))))))))))))))))))))))))))))))))),
   (allC ⟨by kernel_rfl, by decide⟩ (allC ⟨by kernel_rfl, by decide⟩ (allC ⟨by kernel_rfl, by decide⟩ (allC ⟨by kernel_rfl, by decide⟩ (allC ⟨by kernel_rfl, by decide⟩ (allC ⟨by kernel_rfl, by decide⟩ (allC ⟨by kernel_rfl, by decide⟩ (allC ⟨by kernel_rfl, by decide⟩ (allC ⟨by kernel_rfl, by decide⟩ (allC ⟨by kernel_rfl, by decide⟩ (allC ⟨by kernel_rfl, by decide⟩ (allC ⟨by kernel_rfl, by decide⟩ (allC ⟨by kernel_rfl, by decide⟩ (allC ⟨by kernel_rfl, by decide⟩ (allC ⟨by kernel_rfl, by decide⟩ (allC ⟨by kernel_rfl, by decide⟩ (allC ⟨by kernel_rfl, by decide⟩ (allC ⟨by kernel_rfl, by decide⟩ (allC ⟨by kernel_rfl, by decide⟩ (allC ⟨by kernel_rfl, by decide⟩ (allC ⟨by kernel_rfl, by decide⟩ (allC ⟨by kernel_rfl, by decide⟩ (allC ⟨by kernel_rfl, by decide⟩ (allC ⟨by kernel_rfl, by decide⟩ (allC ⟨by kernel_rfl, by decide⟩ (allC ⟨by kernel_rfl, by decide⟩ (allC ⟨by kernel_rfl, by decide⟩ (allC ⟨by kernel_rfl, by decide⟩ (allC ⟨by kernel_rfl, by decide⟩ (allC ⟨by kernel_rfl, by decide⟩ (allC ⟨by kernel_rfl, by decide⟩ (allC ⟨by kernel_rfl, by decide⟩ (allC ⟨by kernel_rfl, by decide⟩ (allC ⟨by kernel_rfl, by decide⟩ (allC ⟨by kernel_rfl, by decide⟩ (allC ⟨by kernel_rfl, by decide⟩ (allC ⟨by kernel_rfl, by decide⟩ (allC ⟨by kernel_rfl, by decide⟩ (allC ⟨by kernel_rfl, by decide⟩ (allC ⟨by kernel_rfl, by decide⟩ (allC ⟨by kernel_rfl, by decide⟩ (allC ⟨by kernel_rfl, by decide⟩ (allC ⟨by kernel_rfl, by decide⟩ (allC ⟨by kernel_rfl, by decide⟩ (allC ⟨by kernel_rfl, by decide⟩ (allC ⟨by kernel_rfl, by decide⟩ (allC ⟨by kernel_rfl, by decide⟩ (allC ⟨by kernel_rfl, by decide⟩ (allC ⟨by kernel_rfl, by decide⟩ (allC ⟨by kernel_rfl, by decide⟩ (allC ⟨by kernel_rfl, by decide⟩ (allC ⟨by kernel_rfl, by decide⟩ (allC ⟨by kernel_rfl, by decide⟩ (allC ⟨by kernel_rfl, by decide⟩ (allC ⟨by kernel_rfl, by decide⟩ (allC ⟨by kernel_rfl, by decide⟩ (allC ⟨by kernel_rfl, by decide⟩ (allC ⟨by kernel_rfl, by decide⟩ (allC ⟨by kernel_rfl, by decide⟩ (allC ⟨by kernel_rfl, by decide⟩ (allC ⟨by kernel_rfl, by decide⟩ (allC ⟨by kernel_rfl, by decide⟩ (allC ⟨by kernel_rfl, by decide⟩ (allC ⟨by kernel_rfl, by decide⟩ (allC ⟨by kernel_rfl, by decide⟩ (allC ⟨by kernel_rfl, by decide⟩ (allC ⟨by kernel_rfl, by decide⟩ (allC ⟨by kernel_rfl, by decide⟩ allN)))))))))))))))))))))))))))))))))))))))))))))))))))))))))))))))))))),
   (allC ⟨by kernel_rfl, by decide⟩ (allC ⟨by kernel_rfl, by decide⟩ (allC ⟨by kernel_rfl, by decide⟩ (allC ⟨by kernel_rfl, by decide⟩ (allC ⟨by kernel_rfl, by decide⟩ (allC ⟨by kernel_rfl, by decide⟩ (allC ⟨by kernel_rfl, by decide⟩ (allC ⟨by kernel_rfl, by decide⟩ (allC ⟨by kernel_rfl, by decide⟩ (allC ⟨by kernel_rfl, by decide⟩ (allC ⟨by kernel_rfl, by decide⟩ (allC ⟨by kernel_rfl, by decide⟩ (allC ⟨by kernel_rfl, by decide⟩ (allC ⟨by kernel_rfl, by decide⟩ (allC ⟨by kernel_rfl, by decide⟩ (allC ⟨by kernel_rfl, by decide⟩ (allC ⟨by kernel_rfl, by decide⟩ allN))))))))))))))))),
   (allC ⟨by kernel_rfl, rfl⟩ (allC ⟨by kernel_rfl, rfl⟩ (allC ⟨by kernel_rfl, rfl⟩ (allC ⟨by kernel_rfl, rfl⟩ (allC ⟨by kernel_rfl, rfl⟩ (allC ⟨by kernel_rfl, rfl⟩ (allC ⟨by kernel_rfl, rfl⟩ (allC ⟨by kernel_rfl, rfl⟩ (allC ⟨by kernel_rfl, rfl⟩ (allC ⟨by kernel_rfl, rfl⟩ (allC ⟨by kernel_rfl, rfl⟩ (allC ⟨by kernel_rfl, rfl⟩ (allC ⟨by kernel_rfl, rfl⟩ (allC ⟨by kernel_rfl, rfl⟩ (allC ⟨by kernel_rfl, rfl⟩ (allC ⟨by kernel_rfl, rfl⟩ (allC ⟨by kernel_rfl, rfl⟩ (allC ⟨by kernel_rfl, rfl⟩ (allC ⟨by kernel_rfl, rfl⟩ (allC ⟨by kernel_rfl, rfl⟩ (allC ⟨by kernel_rfl, rfl⟩ (allC ⟨by kernel_rfl, rfl⟩ (allC ⟨by kernel_rfl, rfl⟩ (allC ⟨by kernel_rfl, rfl⟩ (allC ⟨by kernel_rfl, rfl⟩ (allC ⟨by kernel_rfl, rfl⟩ (allC ⟨by kernel_rfl, rfl⟩ (allC ⟨by kernel_rfl, rfl⟩ (allC ⟨by kernel_rfl, rfl⟩ (allC ⟨by kernel_rfl, rfl⟩ (allC ⟨by kernel_rfl, rfl⟩ (allC ⟨by kernel_rfl, rfl⟩ (allC ⟨by kernel_rfl, rfl⟩ (allC ⟨by kernel_rfl, rfl⟩ (allC ⟨by kernel_rfl, rfl⟩ (allC ⟨by kernel_rfl, rfl⟩ (allC ⟨by kernel_rfl, rfl⟩ (allC ⟨by kernel_rfl, rfl⟩ (allC ⟨by kernel_rfl, rfl⟩ (allC ⟨by kernel_rfl, rfl⟩ (allC ⟨by kernel_rfl, rfl⟩ (allC ⟨by kernel_rfl, rfl⟩ (allC ⟨by kernel_rfl, rfl⟩ (allC ⟨by kernel_rfl, rfl⟩ (allC ⟨by kernel_rfl, rfl⟩ (allC ⟨by kernel_rfl, rfl⟩ (allC ⟨by kernel_rfl, rfl⟩ (allC ⟨by kernel_rfl, rfl⟩ (allC ⟨by kernel_rfl, rfl⟩ (allC ⟨by kernel_rfl, rfl⟩ (allC ⟨by kernel_rfl, rfl⟩ (allC ⟨by kernel_rfl, rfl⟩ (allC ⟨by kernel_rfl, rfl⟩ (allC ⟨by kernel_rfl, rfl⟩ (allC ⟨by kernel_rfl, rfl⟩ (allC ⟨by kernel_rfl, rfl⟩ (allC ⟨by kernel_rfl, rfl⟩ (allC ⟨by kernel_rfl, rfl⟩ (allC ⟨by kernel_rfl, rfl⟩ allN))))))))))))))))))))))))))))))))))))))))))))))))))))))))))),
   (allC ⟨by kernel_rfl, rfl⟩ (allC ⟨by kernel_rfl, rfl⟩ (allC ⟨by kernel_rfl, rfl⟩ (allC ⟨by kernel_rfl, rfl⟩ (allC ⟨by kernel_rfl, rfl⟩ (allC ⟨by kernel_rfl, rfl⟩ (allC ⟨by kernel_rfl, rfl⟩ (allC ⟨by kernel_rfl, rfl⟩ (allC ⟨by kernel_rfl, rfl⟩ (allC ⟨by kernel_rfl, rfl⟩ (allC ⟨by kernel_rfl, rfl⟩ (allC ⟨by kernel_rfl, rfl⟩ (allC ⟨by kernel_rfl, rfl⟩ (allC ⟨by kernel_rfl, rfl⟩ (allC ⟨by kernel_rfl, rfl⟩ (allC ⟨by kernel_rfl, rfl⟩ (allC ⟨by kernel_rfl, rfl⟩ (allC ⟨by kernel_rfl, rfl⟩ (allC ⟨by kernel_rfl, rfl⟩ (allC ⟨by kernel_rfl, rfl⟩ (allC ⟨by kernel_rfl, rfl⟩ (allC ⟨by kernel_rfl, rfl⟩ (allC ⟨by kernel_rfl, rfl⟩ (allC ⟨by kernel_rfl, rfl⟩ (allC ⟨by kernel_rfl, rfl⟩ (allC ⟨by kernel_rfl, rfl⟩ (allC ⟨by kernel_rfl, rfl⟩ (allC ⟨by kernel_rfl, rfl⟩ (allC ⟨by kernel_rfl, rfl⟩ (allC ⟨by kernel_rfl, rfl⟩ allN))))))))))))))))))))))))))))))⟩
theorem mixed : Tryz.prog.follows .mixedOrders = true := by kernel_rfl
end Go.Proofs.YtnenhckongccgaaGreatDoor
namespace Go.Proofs.YtnenhckongccgaaGreatDoor
set_option linter.unusedVariables false
set_option linter.unusedSimpArgs false
set_option maxRecDepth 20000
open Go.RowKit
attribute [local irreducible] runA runX AW
theorem kM {f : FuncId} {fn : Func} {aa : List AV} {es : List Ent} {out : AV} {news es' : List Ent} (hf : Tryz.prog.funcs[f]? = some fn) (hs : fn.body.isSome = true)
    (h : (∀ a ∈ aa, a.fit) → (∀ e ∈ es, e.fit) → AW Tryz.prog fn.ntmps (fn.body.get hs) (retK T0 fn.results out news es') ⟨argsE aa, Gin es⟩) (hn : (fn.name == "runtime.NumGoroutine") = false := by rfl) (hl : Nat.ble aa.length fn.ntmps = true := by rfl) (hes : es'.length = es.length := by rfl) : Kon Tryz.prog f aa es out news es' :=
  kon_mk T0ok hf (Option.some_get hs).symm hn hl hes h
theorem nxA {H G : Prop} (k : H) (h : Hid H → G := by (intro hh; (first | refine r_none ?_ | refine r_gt (by rfl) (by rfl) zDD (by rfl) ?_ | refine r_gf (by rfl) (by rfl) zDD (by rfl) ?_); exact hh.out)) : G := h ⟨k⟩
theorem swA {H G : Prop} (k : H) (h : Hid H → G := by (intro hh; (first | refine r_nt (by rfl) (by rfl) zDD (by rfl) ?_ | refine r_nf (by rfl) (by rfl) zDD (by rfl) ?_ | refine r_gu (by rfl) (by rfl) (by rfl) ?_ | refine r_nil ?_); exact hh.out)) : G := h ⟨k⟩
theorem awA {H G : Prop} (k : H) (h : Hid H → G := by (intro hh; (first | refine aw_seq ?_ | refine aw_ct (by rfl) zDD ?_ | refine aw_cf (by rfl) zDD ?_ | refine aw_block ?_ | refine aw_region T0ok cfU_ok (by rfl) ?_ | refine aw_skip ?_ | refine aw_exit ?_ | refine ra_step ?_); exact hh.out)) : G := h ⟨k⟩
theorem ga0A {H G : Prop} (k : H) (h : Hid H → G := by (intro hh; (first | refine r_none ?_ | refine r_gt (by rfl) (by rfl) zDD (by rfl) ?_ | refine r_gf (by rfl) (by rfl) zDD (by rfl) ?_); refine z_op (by rfl) ?_; refine z_alV ?_ hh.out; focus (first | exact trivial | fail | exact zQZ))) : G := h ⟨k⟩
theorem ga1A {H G : Prop} (k : H) (h : Hid H → G := by (intro hh; (first | refine r_none ?_ | refine r_gt (by rfl) (by rfl) zDD (by rfl) ?_ | refine r_gf (by rfl) (by rfl) zDD (by rfl) ?_); refine z_op (by rfl) ?_; refine z_al ?_ hh.out; focus (first | exact trivial | fail | exact zQZ))) : G := h ⟨k⟩
theorem ga2A {H G : Prop} (k : H) (h : Hid H → G := by (intro hh; (first | refine r_none ?_ | refine r_gt (by rfl) (by rfl) zDD (by rfl) ?_ | refine r_gf (by rfl) (by rfl) zDD (by rfl) ?_); refine z_op (by rfl) ?_; refine z_alV ?_ hh.out; focus (first | exact trivial | exact ⟨⟨by decide, by decide⟩, fun w => rfl⟩ | exact zQZ))) : G := h ⟨k⟩
theorem gcA {H G : Prop} (k : H) (h : Hid H → G := by (intro hh; repeat1' (first | refine aw_seq ?_ | refine aw_ct (by rfl) zDD ?_ | refine aw_cf (by rfl) zDD ?_ | refine aw_block ?_ | refine aw_region T0ok cfU_ok (by rfl) ?_ | refine aw_skip ?_ | refine aw_exit ?_ | refine ra_step ?_); exact hh.out)) : G := h ⟨k⟩
theorem gdA {H G : Prop} (k : H) (h : Hid H → G := by (intro hh; (refine aw_draw mixed T0ok cfU_ok [] (by rfl) (by kernel_rfl) ?_); exact hh.out)) : G := h ⟨k⟩
theorem rtA {H G : Prop} (k : H) (h : Hid H → G := by (intro hh; (try refine aw_ret ?_); refine ret_auto2 (by rfl) (by rfl) (by rfl) zHQ hh.out zHN zHN)) : G := h ⟨k⟩
theorem gq_ZA {H G : Prop} (k : H) (h : Hid H → G := by (intro hh; repeat1' (first | (first | (refine nxA ?_; (first | fail | ((first | (refine z_op (by rfl) ?_; first | refine z_ok ?_ ?_ | refine z_ex ?_ (by first | exact zL1 | ((first | refine mk_0 Int rfl rfl ?_ | refine mk_c Int rfl rfl rfl ?_ | refine mk_c Bool rfl rfl rfl ?_); exact zWW) | exact zL2 | exact rw_c Int rfl | exact rw_c Bool rfl | exact zL3 | fail) ?_) | ((first | refine q_callE wsT wsZ (by rfl) ?_ | refine q_callVE wsT (by rfl) (by rfl) ?_); refine ⟨_, _, _, (by first | exact k_within _ _ _ | exact k_l1In _ _ _ | exact k_okL _ | exact k_wv _ _ | assumption), _, by rfl, ?_, ?_⟩)); focus (first | exact trivial | fail | exact zQZ)) | fail)) | refine swA ?_) | refine awA ?_); exact hh.out)) : G := h ⟨k⟩
def wsT : WsT := [
  (65, ([0], true)),
  (66, ([0], true)),
  (123, ([0], true)),
  (38, ([], true)),
  (999999, ([], false))]
def wsZ : List (Nat × Nat) := [
  (999999, 0)]
def btw (n a b : Int) : Bool := decide (n ≥ a) && decide (n ≤ b)
theorem btw_t {n a b : Int} (h : btw n a b = true) : a ≤ n ∧ n ≤ b := by simpa [btw] using h
theorem btw_f {n a b : Int} (h : btw n a b = false) : ¬ (a ≤ n ∧ n ≤ b) := by intro ⟨h1, h2⟩; simp [btw, h1, h2] at h
theorem k_within (n a b : Int) : Kon Tryz.prog 62 [vI n, vI a, vI b] [] (vB (btw n a b)) [] [] := by
  (refine kM Tryz.func62 rfl ?_; intro hfit hfe)
  unfold btw
  cases h1 : decide (n ≥ a)
  all_goals ((repeat (first | refine gq_ZA ?_ | (refine ga1A ?_; intro _q ⟨_he, _hq⟩))); (refine rtA ?_; try rfl))
theorem k_l1In (n a b : Int) : Kon Tryz.prog 58 [vI n, vI a, vI b] [] (vB (btw n a b)) [] [] := by
  (refine kM Tryz.func58 rfl ?_; intro hfit hfe)
  unfold btw
  cases h1 : decide (n ≥ a)
  all_goals ((repeat (first | refine gq_ZA ?_ | (refine ga1A ?_; intro _q ⟨_he, _hq⟩))); (refine rtA ?_; try rfl))
theorem k_okL (n : Int) : Kon Tryz.prog 106 [vI n] [] (vB (btw n 1 8)) [] [] := by
  (refine kM Tryz.func106 rfl ?_; intro hfit hfe)
  (repeat (first | refine gq_ZA ?_ | (refine ga1A ?_; intro _q ⟨_he, _hq⟩)))
  (refine rtA ?_; try rfl)
abbrev rdE (l : List UInt8) (c : Int) : Ent := .box [roC l, .v (.int .i64 c)]
abbrev p0 : AV := .g (.one (.ptr 100000 0 0))
def byI (l : List UInt8) (i : Int) : Int := (l.getD i.toNat 0).toNat
def pickW (l : List UInt8) (c : Int) : Int := byI l (c % l.length) * 131 + byI l ((c * 7 + 3) % l.length) * 1117 + c * 29 + c / l.length * 53
def pickI (l : List UInt8) (c n : Int) : Int :=
  if n < 1 ∨ l.length = 0 then 0 else if c < l.length then byI l c % n else (((pickW l c).toNat ^^^ (pickW l c / 64).toNat : Nat) : Int) % n
theorem pickI_lt {l : List UInt8} {c n : Int} (h : 1 ≤ n) : 0 ≤ pickI l c n ∧ pickI l c n < n := by
  unfold pickI
  split
  · omega
  · split <;> exact ⟨Int.emod_nonneg _ (by omega), Int.emod_lt_of_pos _ (by omega)⟩
theorem k_pick (l : List UInt8) (c n : Int) (h : 0 ≤ c ∧ c ≤ 1000000 ∧ l.length ≤ 2000) : Kon Tryz.prog 65 [p0, vI n] [rdE l c] (vI (pickI l c n)) [] [rdE l (c + 1)] := by
  (refine kM Tryz.func65 rfl ?_; intro hfit hfe)
  have e1 : c + 1 - 1 = c := by omega
  unfold pickI
  cases h3 : decide (n < 1) with
  | true => rw [if_pos (.inl (of_decide_eq_true h3))]; (repeat (first | refine gq_ZA ?_ | (refine ga1A ?_; intro _q ⟨_he, _hq⟩))); (refine rtA ?_; try rfl)
  | false =>
    have h3' := of_decide_eq_false h3
    cases h4 : ((l.length : Int) == 0) with
    | true => rw [if_pos (.inr (by simpa using h4))]; (repeat (first | refine gq_ZA ?_ | (refine ga1A ?_; intro _q ⟨_he, _hq⟩))); (refine rtA ?_; try rfl)
    | false =>
      have h4' : ¬ l.length = 0 := by simpa using h4
      rw [if_neg (by omega)]
      cases h5 : decide (c + 1 - 1 < (l.length : Int)) with
      | true =>
        have h5' := of_decide_eq_true h5
        rw [if_pos (by omega)]
        (repeat (first | refine gq_ZA ?_ | (refine ga1A ?_; intro _q ⟨_he, _hq⟩)))
        (subst_vars; (refine rtA ?_; try rfl))
        rw [e1]; rfl
      | false =>
        rw [if_neg (by simpa using h5)]
        (repeat (first | refine gq_ZA ?_ | (refine ga1A ?_; intro _q ⟨_he, _hq⟩)))
        (refine aw_draw mixed T0ok cfU_ok [] (by rfl) (by kernel_rfl) ?_)
        (repeat (first | refine gq_ZA ?_ | (refine ga1A ?_; intro _q ⟨_he, _hq⟩)))
        (subst_vars; (refine rtA ?_; try rfl))
        rw [e1]; rfl
theorem k_odd (l : List UInt8) (c n : Int) (h : 0 ≤ c ∧ c ≤ 1000000 ∧ l.length ≤ 2000 ∧ 0 < n ∧ n ≤ 1000000) : Kon Tryz.prog 66 [p0, vI n] [rdE l c] (vB (pickI l c n == n - 1)) [] [rdE l (c + 1)] := by
  (refine kM Tryz.func66 rfl ?_; intro hfit hfe)
  have hp := pickI_lt (l := l) (c := c) (n := n) (by omega)
  have h3 : decide (n > 0) = true := by simp; omega
  have hK := k_pick l c n ⟨h.1, h.2.1, h.2.2.1⟩
  (repeat (first | refine gq_ZA ?_ | (refine ga1A ?_; intro _q ⟨_he, _hq⟩)))
  (refine rtA ?_; try rfl)
theorem k_open (l : List UInt8) (h : l.length ≤ 100000000) : Kon Tryz.prog 38 [roA l] [] (.g (.one (.ptr 0 0 0))) [rdE (l.take 2000) 0] [] := by
  (refine kM Tryz.func38 rfl ?_; intro hfit hfe)
  cases h1 : decide ((l.length : Int) > 2000) with
  | true =>
    have h1' := of_decide_eq_true h1
    (repeat (first | refine gq_ZA ?_ | (refine ga1A ?_; intro _q ⟨_he, _hq⟩)))
    (refine rtA ?_; try rfl)
  | false =>
    have e : l.take 2000 = l := List.take_of_length_le (by have := of_decide_eq_false h1; omega)
    rw [e]
    (repeat (first | refine gq_ZA ?_ | (refine ga1A ?_; intro _q ⟨_he, _hq⟩)))
    (refine rtA ?_; try rfl)
theorem ex_pick (l : List UInt8) (c n : Int) (h : 0 ≤ c ∧ c ≤ 1000000 ∧ l.length ≤ 2000) : ∃ v : Int, (n < 1 → v = 0) ∧ (1 ≤ n → 0 ≤ v ∧ v < n) ∧ Kon Tryz.prog 65 [p0, vI n] [rdE l c] (vI v) [] [rdE l (c + 1)] :=
  ⟨pickI l c n, fun h => by unfold pickI; rw [if_pos (.inl h)], pickI_lt, k_pick l c n h⟩
def wvB (n w : Int) : Bool := btw n 1 8 && btw w 0 (2 ^ n.toNat - 1)
theorem k_wv (n w : Int) : Kon Tryz.prog 60 [vI n, vI w] [] (vB (wvB n w)) [] [] := by
  (refine kM Tryz.func60 rfl ?_; intro hfit hfe)
  unfold wvB
  cases h1 : btw n 1 8 with
  | false => (repeat (first | refine gq_ZA ?_ | (refine ga1A ?_; intro _q ⟨_he, _hq⟩))); (refine rtA ?_; try rfl)
  | true =>
    have h1' := btw_t h1
    (repeat (first | refine gq_ZA ?_ | (refine ga1A ?_; intro _q ⟨_he, _hq⟩)))
    (subst_vars; (refine rtA ?_; try rfl))
    rw [Int.one_mul]; rfl
theorem k_alive : Kon Tryz.prog 14 [] [] (vB true) [] [] := by
  (refine kM Tryz.func14 rfl ?_; intro hfit hfe)
  (repeat (first | refine gq_ZA ?_ | (refine ga1A ?_; intro _q ⟨_he, _hq⟩)))
  (refine rtA ?_; try rfl)
end Go.Proofs.YtnenhckongccgaaGreatDoor
namespace Go.Proofs.YtnenhckongccgaaGreatDoor
set_option linter.unusedVariables false
open Go.Shelf Go.RowKit Go.Lib
def Tryz.lays156_ren : Go.Shelf.Ren := ⟨fun | 156 => 119 | 165 => 154 | 166 => 83 | 169 => 85 | 240 => 122 | 241 => 178 | 276 => 159 | 277 => 196 | n => n, fun | 31 => 33 | 9 => 9 | 3 => 3 | 4 => 4 | 0 => 0 | 20 => 20 | 72 => 103 | 76 => 106 | 70 => 101 | 37 => 22 | 75 => 105 | 127 => 140 | 164 => 164 | 5 => 5 | 80 => 109 | n => n, fun | n => n⟩
theorem Tryz.lays156 : Go.Proofs.Lays.n156 Tryz.prog Tryz.lays156_ren := {
  mixed := by kernel_rfl
  f156 := Tryz.func119.trans (congrArg some (by kernel_rfl))
  f165 := Tryz.func154.trans (congrArg some (by kernel_rfl))
  f166 := Tryz.func83.trans (congrArg some (by kernel_rfl))
  f169 := Tryz.func85.trans (congrArg some (by kernel_rfl))
  f240 := Tryz.func122.trans (congrArg some (by kernel_rfl))
  f241 := Tryz.func178.trans (congrArg some (by kernel_rfl))
  f276 := Tryz.func159.trans (congrArg some (by kernel_rfl))
  f277 := Tryz.func196.trans (congrArg some (by kernel_rfl))
  t0 := Tryz.underlying0
  a0 := Tryz.isAgg0
  z0 := Tryz.sizeOf0
  v0 := Tryz.zeroValue0
  t3 := Tryz.underlying3
  a3 := Tryz.isAgg3
  z3 := Tryz.sizeOf3
  v3 := Tryz.zeroValue3
  t4 := Tryz.underlying4
  a4 := Tryz.isAgg4
  z4 := Tryz.sizeOf4
  v4 := Tryz.zeroValue4
  t9 := Tryz.underlying9
  a9 := Tryz.isAgg9
  z9 := Tryz.sizeOf9
  v9 := Tryz.zeroValue9
  t20 := Tryz.underlying20
  a20 := Tryz.isAgg20
  z20 := Tryz.sizeOf20
  v20 := Tryz.zeroValue20
  t31 := Tryz.underlying33
  a31 := Tryz.isAgg33
  z31 := Tryz.sizeOf33
  v31 := Tryz.zeroValue33
  t37 := Tryz.underlying22
  a37 := Tryz.isAgg22
  z37 := Tryz.sizeOf22
  v37 := Tryz.zeroValue22
  t70 := Tryz.underlying101
  a70 := Tryz.isAgg101
  z70 := Tryz.sizeOf101
  v70 := Tryz.zeroValue101
  t72 := Tryz.underlying103
  a72 := Tryz.isAgg103
  z72 := Tryz.sizeOf103
  v72 := Tryz.zeroValue103
  t75 := Tryz.underlying105
  a75 := Tryz.isAgg105
  z75 := Tryz.sizeOf105
  v75 := Tryz.zeroValue105
  t76 := Tryz.underlying106
  a76 := Tryz.isAgg106
  z76 := Tryz.sizeOf106
  v76 := Tryz.zeroValue106
  t127 := Tryz.underlying140
  a127 := Tryz.isAgg140
  z127 := Tryz.sizeOf140
  v127 := Tryz.zeroValue140
  t164 := Tryz.underlying164
  a164 := Tryz.isAgg164
  z164 := Tryz.sizeOf164
  v164 := Tryz.zeroValue164 }
theorem Tryz.Builder_Extra_156 : Builder.Extra Tryz.prog Tryz.lays156_ren := {
  sizeBuilder := by kernel_rfl
  liesBuilder := by kernel_rfl
  t5 := Tryz.underlying5
  a5 := Tryz.isAgg5
  z5 := Tryz.sizeOf5
  v5 := Tryz.zeroValue5
  infoByte := by kernel_rfl
  cellsByte := by kernel_rfl
  sizeByte := by kernel_rfl
  neB5 := by decide }
theorem Tryz.strings_Join_none (a : Option Addr) (c : Nat) (sep : ByteArray) (w : World) :
    Calls Tryz.prog 119 #[.slice a 0 c, .string sep] w fun e w' => e = .returned (.string ⟨#[]⟩) ∧ w' = w := Any.strings_Join_none Tryz.lays156 Tryz.Builder_Extra_156 a c sep w
theorem Tryz.strings_Join (bk o c : Nat) (xs : List ByteArray) (sep : ByteArray) (w : World) (hcells : ∀ (j : Nat) x, xs[j]? = some x → w.cell? ⟨bk, o + j, none⟩ = some (.string x)) (hbk : bk < w.heap.size) (hN : xs.length ≤ 140737488355328) (hcap : xs.length ≤ c) (hlen : (Lib.join (xs.map (·.data.toList)) sep.data.toList).length ≤ 140737488355328) :
    Calls Tryz.prog 119 #[.slice (some ⟨bk, o, none⟩) xs.length c, .string sep] w fun e w' => e = .returned (.string ⟨(Lib.join (xs.map (·.data.toList)) sep.data.toList).toArray⟩) ∧ Below w.heap.size w w' := Any.strings_Join Tryz.lays156 Tryz.Builder_Extra_156 bk o c xs sep w hcells hbk hN hcap hlen
def Tryz.lays171_ren : Go.Shelf.Ren := ⟨fun | 171 => 80 | 243 => 116 | 246 => 153 | 283 => 174 | 284 => 175 | 285 => 176 | 286 => 177 | 129 => 192 | 317 => 191 | 318 => 193 | 319 => 194 | 320 => 195 | 337 => 204 | 338 => 205 | n => n, fun | 3 => 3 | 9 => 9 | 2 => 2 | 4 => 4 | 171 => 179 | 0 => 0 | 53 => 180 | 37 => 22 | 5 => 5 | 173 => 183 | 212 => 202 | 51 => 191 | 20 => 20 | 213 => 203 | 46 => 171 | 232 => 216 | 233 => 217 | n => n, fun | 17 => 3 | 18 => 4 | 19 => 5 | n => n⟩
theorem Tryz.lays171 : Go.Proofs.Lays.n171 Tryz.prog Tryz.lays171_ren := {
  mixed := by kernel_rfl
  f129 := Tryz.func192.trans (congrArg some (by kernel_rfl))
  f171 := Tryz.func80.trans (congrArg some (by kernel_rfl))
  f243 := Tryz.func116.trans (congrArg some (by kernel_rfl))
  f246 := Tryz.func153.trans (congrArg some (by kernel_rfl))
  f283 := Tryz.func174.trans (congrArg some (by kernel_rfl))
  f284 := Tryz.func175.trans (congrArg some (by kernel_rfl))
  f285 := Tryz.func176.trans (congrArg some (by kernel_rfl))
  f286 := Tryz.func177.trans (congrArg some (by kernel_rfl))
  f317 := Tryz.func191.trans (congrArg some (by kernel_rfl))
  f318 := Tryz.func193.trans (congrArg some (by kernel_rfl))
  f319 := Tryz.func194.trans (congrArg some (by kernel_rfl))
  f320 := Tryz.func195.trans (congrArg some (by kernel_rfl))
  f337 := Tryz.func204.trans (congrArg some (by kernel_rfl))
  f338 := Tryz.func205.trans (congrArg some (by kernel_rfl))
  t0 := Tryz.underlying0
  a0 := Tryz.isAgg0
  z0 := Tryz.sizeOf0
  v0 := Tryz.zeroValue0
  t2 := Tryz.underlying2
  a2 := Tryz.isAgg2
  z2 := Tryz.sizeOf2
  v2 := Tryz.zeroValue2
  t3 := Tryz.underlying3
  a3 := Tryz.isAgg3
  z3 := Tryz.sizeOf3
  v3 := Tryz.zeroValue3
  t4 := Tryz.underlying4
  a4 := Tryz.isAgg4
  z4 := Tryz.sizeOf4
  v4 := Tryz.zeroValue4
  t5 := Tryz.underlying5
  a5 := Tryz.isAgg5
  z5 := Tryz.sizeOf5
  v5 := Tryz.zeroValue5
  t9 := Tryz.underlying9
  a9 := Tryz.isAgg9
  z9 := Tryz.sizeOf9
  v9 := Tryz.zeroValue9
  t20 := Tryz.underlying20
  a20 := Tryz.isAgg20
  z20 := Tryz.sizeOf20
  v20 := Tryz.zeroValue20
  t37 := Tryz.underlying22
  a37 := Tryz.isAgg22
  z37 := Tryz.sizeOf22
  v37 := Tryz.zeroValue22
  t46 := Tryz.underlying171
  a46 := Tryz.isAgg171
  z46 := Tryz.sizeOf171
  v46 := Tryz.zeroValue171
  t51 := Tryz.underlying191
  a51 := Tryz.isAgg191
  z51 := Tryz.sizeOf191
  v51 := Tryz.zeroValue191
  t53 := Tryz.underlying180
  a53 := Tryz.isAgg180
  z53 := Tryz.sizeOf180
  v53 := Tryz.zeroValue180
  t171 := Tryz.underlying179
  a171 := Tryz.isAgg179
  z171 := Tryz.sizeOf179
  v171 := Tryz.zeroValue179
  t173 := Tryz.underlying183
  a173 := Tryz.isAgg183
  z173 := Tryz.sizeOf183
  v173 := Tryz.zeroValue183
  t212 := Tryz.underlying202
  a212 := Tryz.isAgg202
  z212 := Tryz.sizeOf202
  v212 := Tryz.zeroValue202
  t213 := Tryz.underlying203
  a213 := Tryz.isAgg203
  z213 := Tryz.sizeOf203
  t232 := Tryz.underlying216
  a232 := Tryz.isAgg216
  z232 := Tryz.sizeOf216
  v232 := Tryz.zeroValue216
  t233 := Tryz.underlying217
  a233 := Tryz.isAgg217
  z233 := Tryz.sizeOf217
  v233 := Tryz.zeroValue217
  g17 := by kernel_rfl
  g18 := by kernel_rfl
  g19 := by kernel_rfl }
theorem Tryz.strconv_Itoa_small (i : Nat) (hi : i < 100) (w : World) :
    Calls Tryz.prog 80 #[.int .i64 i] w fun e w' => e = .returned (.string ⟨(Lib.decDigits i).toArray⟩) ∧ w' = w := Any.strconv_Itoa_small Tryz.lays171 i hi w
end Go.Proofs.YtnenhckongccgaaGreatDoor
namespace Go.Proofs.YtnenhckongccgaaGreatDoor
set_option linter.unusedVariables false
set_option linter.unusedSimpArgs false
set_option maxRecDepth 20000
open Go.RowKit
attribute [local irreducible] runA runX AW
theorem gq_DN {H G : Prop} (k : H) (h : Hid H → G := by (intro hh; repeat1' (first | (first | (refine nxA ?_; (first | (first | refine r_seq (by rfl) (by rfl) (by rfl) ?_ | refine r_sne (by rfl) (by rfl) (by rfl) ?_ | refine r_sadd (by rfl) (by rfl) (by first | omega | (simp only [List.length_append, List.length_cons, List.length_nil]; omega)) (by rfl) ?_ | refine r_i2b (by rfl) (fun w => by rfl) (by omega) (by rfl) ?_ | refine r_bstr1 (by rfl) (by rfl) (by rfl) (by rfl) Tryz.underlying22 Tryz.underlying5 Tryz.underlying9 (by exact ⟨rfl, rfl, Nat.zero_lt_one, rfl⟩) (by rfl) ?_) | ((first | (refine z_op (by rfl) ?_; first | refine z_ok ?_ ?_ | refine z_ex ?_ (by first | exact zL1 | ((first | fail); exact zWW) | exact zL2 | (first | exact rw_c UInt8 rfl | exact rw_c (List UInt8) rfl) | exact zL3 | fail) ?_) | ((first | refine q_callE wsT wsZ (by rfl) ?_ | refine q_callVE wsT (by rfl) (by rfl) ?_); refine ⟨_, _, _, (by first | assumption), _, by rfl, ?_, ?_⟩)); focus (first | exact trivial | fail | exact zQZ)) | fail)) | refine swA ?_) | refine awA ?_); exact hh.out)) : G := h ⟨k⟩
open Go.Lib (decDigits) in
theorem k_num1 (n : Int) (h : 0 ≤ n ∧ n < 10) : Kon Tryz.prog 48 [vI n] [] (vS (decDigits n.toNat)) [] [] := by
  have hd1 : decide (n < 0) = false := decide_eq_false (by omega)
  have hd2 : decide (n < 10) = true := decide_eq_true (by omega)
  have e : decDigits n.toNat = [UInt8.ofNat (48 + n).toNat] := by
    rw [Go.Lib.decDigits_one (by omega)]
    congr 2; omega
  rw [e]
  (refine kM Tryz.func48 rfl ?_; intro hfit hfe)
  (repeat (first | refine gq_DN ?_ | (refine ga0A ?_; intro _hq)))
  (refine rtA ?_; try rfl)
open Go.Lib (decDigits) in
theorem k_num (n : Int) (h : 0 ≤ n ∧ n < 100) : Kon Tryz.prog 48 [vI n] [] (vS (decDigits n.toNat)) [] [] := by
  rcases Int.lt_or_le n 10 with h1 | h1
  · exact k_num1 n ⟨h.1, h1⟩
  have hd1 : decide (n < 0) = false := decide_eq_false (by omega)
  have hd2 : decide (n < 10) = false := decide_eq_false (by omega)
  have hK := k_num1 (n / 10) (by omega)
  have e : decDigits n.toNat = decDigits (n / 10).toNat ++ [UInt8.ofNat (48 + n % 10).toNat] := by
    rw [Go.Lib.decDigits, dif_neg (by omega)]
    congr 2
    · omega
    · congr 2; omega
  have hl : (decDigits (n / 10).toNat).length ≤ 20 := by
    rw [Go.Lib.decDigits_one (by omega)]; simp
  rw [e]
  (refine kM Tryz.func48 rfl ?_; intro hfit hfe)
  (repeat (first | refine gq_DN ?_ | (refine ga0A ?_; intro _hq)))
  (repeat (first | refine gq_DN ?_ | (refine ga0A ?_; intro _hq) | refine gdA ?_))
  (refine rtA ?_; try rfl)
open Go.Lib (decDigits) in
theorem k_itoa (n : Int) (h : 0 ≤ n ∧ n < 100) : Kon Tryz.prog 80 [vI n] [] (vS (decDigits n.toNat)) [] [] := by
  refine kon_pure (Go.Proofs.enters_of Tryz.func80 (by kernel_rfl) rfl) rfl rfl ?_
  intro w ok vs hg hok hsz hargs
  obtain ⟨z, hz, hr⟩ := hargs 0 _ rfl
  have hv : vs = #[.int .i64 n] := by
    obtain ⟨xs⟩ := vs
    match xs, hsz with
    | [y], _ =>
      cases hz
      rw [show y = .int .i64 n from hr.1]
  subst hv
  have hK := Tryz.strconv_Itoa_small n.toNat (by omega) w
  rw [show ((n.toNat : Nat) : Int) = n by omega] at hK
  refine hK.mono ?_
  rintro en W' ⟨rfl, rfl⟩
  exact ⟨_, rfl, Below.refl _ _, fun β G ok' => ⟨rfl, rfl⟩⟩
theorem k_join (xs : List (List UInt8)) (sep : List UInt8) (hx : xs.length ≤ 1000000) (hl : (Go.Lib.join xs sep).length ≤ 1000000) : Kon Tryz.prog 119 [roA xs, vS sep] [] (vS (Go.Lib.join xs sep)) [] [] := by
  refine kon_pure (Go.Proofs.enters_of Tryz.func119 (by kernel_rfl) rfl) rfl rfl ?_
  intro w ok vs hg hok hsz hargs
  obtain ⟨z0, hz0, hr0⟩ := hargs 0 _ rfl
  obtain ⟨z1, hz1, hr1⟩ := hargs 1 _ rfl
  have hv : vs = #[z0, .string (str sep)] := by
    obtain ⟨xs⟩ := vs
    match xs, hsz with
    | [y, y'], _ =>
      cases hz0
      cases hz1
      rw [show y' = .string (str sep) from hr1.1]
      rfl
  subst hv
  have e : (xs.map str).map (·.data.toList) = xs := by
    rw [List.map_map]
    conv => rhs; rw [← List.map_id xs]
    apply List.map_congr_left
    intro a _
    simp [str]
  obtain ⟨⟨hlen, hone⟩, A, c, rfl, hnc, hc2, hcells⟩ := hr0
  rcases Nat.eq_zero_or_pos xs.length with h0 | h0
  · have hx0 : xs = [] := List.eq_nil_of_length_eq_zero h0
    subst hx0
    refine (Tryz.strings_Join_none A c (str sep) w).mono ?_
    rintro en W' ⟨rfl, rfl⟩
    exact ⟨_, rfl, Below.refl _ _, fun β G ok' => ⟨rfl, rfl⟩⟩
  · obtain ⟨b, off, rfl, hb, hc⟩ := hcells h0
    have hcell : ∀ (j : Nat) x, (xs.map str)[j]? = some x → w.cell? ⟨b, off + j, none⟩ = some (.string x) := by
      intro j x hj
      have hjl : j < xs.length := by
        have := (List.getElem?_eq_some_iff.1 hj).1
        simpa using this
      have h2 := hc _ _ (cV_cell (l := xs) (j := j) (o := 0) hjl (v := .string (str (xs.getD j []))) rfl)
      rw [show j * Cel.sz (List UInt8) + 0 = j from Nat.mul_one j] at h2
      rw [h2]
      simp [hjl] at hj
      rw [← hj]
      simp [List.getD_eq_getElem?_getD, hjl]
    have hJ := Tryz.strings_Join b off c (xs.map str) (str sep) w hcell (hok b hb) (by simp; omega) (by simpa using hnc) (by rw [e]; simpa [str] using (show (Go.Lib.join xs sep).length ≤ 140737488355328 by omega))
    rw [e, show (str sep).data.toList = sep by simp [str]] at hJ
    rw [List.length_map] at hJ
    refine hJ.mono ?_
    rintro en W' ⟨rfl, hB⟩
    exact ⟨_, rfl, hB, fun β G ok' => ⟨rfl, rfl⟩⟩
theorem join_2 (a b s : List UInt8) : Go.Lib.join [a, b] s = a ++ s ++ b := by
  rw [Go.Lib.join_cons]; simp [Go.Lib.joinTail]
theorem join_3 (a b c s : List UInt8) : Go.Lib.join [a, b, c] s = a ++ s ++ b ++ s ++ c := by
  rw [Go.Lib.join_cons]; simp [Go.Lib.joinTail]
theorem join_4 (a b c d s : List UInt8) : Go.Lib.join [a, b, c, d] s = a ++ s ++ b ++ s ++ c ++ s ++ d := by
  rw [Go.Lib.join_cons]; simp [Go.Lib.joinTail]
theorem k_jo (xs : List (List UInt8)) (r : List UInt8) (e : Go.Lib.join xs [32] = r) (hx : xs.length ≤ 10) (hr : r.length ≤ 1000) : Kon Tryz.prog 119 [roA xs, vS [32]] [] (vS r) [] [] := by
  subst e
  exact k_join xs [32] (by omega) (by omega)
end Go.Proofs.YtnenhckongccgaaGreatDoor
namespace Go.Proofs.YtnenhckongccgaaGreatDoor
set_option linter.unusedVariables false
open Go.Shelf Go.RowKit Go.Lib Go.Sort
def Tryz.laysM171_ren : Go.Shelf.Ren := ⟨fun | 171 => 80 | 243 => 116 | 246 => 153 | 283 => 174 | 284 => 175 | 285 => 176 | 286 => 177 | 129 => 192 | 317 => 191 | 318 => 193 | 319 => 194 | 320 => 195 | 337 => 204 | 338 => 205 | n => n, fun | 3 => 3 | 9 => 9 | 2 => 2 | 4 => 4 | 171 => 179 | 0 => 0 | 53 => 180 | 37 => 22 | 5 => 5 | 173 => 183 | 212 => 202 | 51 => 191 | 20 => 20 | 213 => 203 | 46 => 171 | 232 => 216 | 233 => 217 | n => n, fun | 17 => 3 | 18 => 4 | 19 => 5 | n => n⟩
theorem Tryz.laysM171 : Go.Proofs.LaysM.n171 Tryz.prog Tryz.laysM171_ren := {
  mixed := by kernel_rfl
  f129 := Tryz.func192.trans (congrArg some (by kernel_rfl))
  f171 := Tryz.func80.trans (congrArg some (by kernel_rfl))
  f243 := Tryz.func116.trans (congrArg some (by kernel_rfl))
  f246 := Tryz.func153.trans (congrArg some (by kernel_rfl))
  f283 := Tryz.func174.trans (congrArg some (by kernel_rfl))
  f284 := Tryz.func175.trans (congrArg some (by kernel_rfl))
  f285 := Tryz.func176.trans (congrArg some (by kernel_rfl))
  f286 := Tryz.func177.trans (congrArg some (by kernel_rfl))
  f317 := Tryz.func191.trans (congrArg some (by kernel_rfl))
  f318 := Tryz.func193.trans (congrArg some (by kernel_rfl))
  f319 := Tryz.func194.trans (congrArg some (by kernel_rfl))
  f320 := Tryz.func195.trans (congrArg some (by kernel_rfl))
  f337 := Tryz.func204.trans (congrArg some (by kernel_rfl))
  f338 := Tryz.func205.trans (congrArg some (by kernel_rfl))
  t0 := Tryz.underlying0
  a0 := Tryz.isAgg0
  z0 := Tryz.sizeOf0
  v0 := Tryz.zeroValue0
  t2 := Tryz.underlying2
  a2 := Tryz.isAgg2
  z2 := Tryz.sizeOf2
  v2 := Tryz.zeroValue2
  t3 := Tryz.underlying3
  a3 := Tryz.isAgg3
  z3 := Tryz.sizeOf3
  v3 := Tryz.zeroValue3
  t4 := Tryz.underlying4
  a4 := Tryz.isAgg4
  z4 := Tryz.sizeOf4
  v4 := Tryz.zeroValue4
  t5 := Tryz.underlying5
  a5 := Tryz.isAgg5
  z5 := Tryz.sizeOf5
  v5 := Tryz.zeroValue5
  t9 := Tryz.underlying9
  a9 := Tryz.isAgg9
  z9 := Tryz.sizeOf9
  v9 := Tryz.zeroValue9
  t20 := Tryz.underlying20
  a20 := Tryz.isAgg20
  z20 := Tryz.sizeOf20
  v20 := Tryz.zeroValue20
  t37 := Tryz.underlying22
  a37 := Tryz.isAgg22
  z37 := Tryz.sizeOf22
  v37 := Tryz.zeroValue22
  t46 := Tryz.underlying171
  a46 := Tryz.isAgg171
  z46 := Tryz.sizeOf171
  v46 := Tryz.zeroValue171
  t51 := Tryz.underlying191
  a51 := Tryz.isAgg191
  z51 := Tryz.sizeOf191
  v51 := Tryz.zeroValue191
  t53 := Tryz.underlying180
  a53 := Tryz.isAgg180
  z53 := Tryz.sizeOf180
  v53 := Tryz.zeroValue180
  t171 := Tryz.underlying179
  a171 := Tryz.isAgg179
  z171 := Tryz.sizeOf179
  v171 := Tryz.zeroValue179
  t173 := Tryz.underlying183
  a173 := Tryz.isAgg183
  z173 := Tryz.sizeOf183
  v173 := Tryz.zeroValue183
  t212 := Tryz.underlying202
  a212 := Tryz.isAgg202
  z212 := Tryz.sizeOf202
  v212 := Tryz.zeroValue202
  t213 := Tryz.underlying203
  a213 := Tryz.isAgg203
  z213 := Tryz.sizeOf203
  t232 := Tryz.underlying216
  a232 := Tryz.isAgg216
  z232 := Tryz.sizeOf216
  v232 := Tryz.zeroValue216
  t233 := Tryz.underlying217
  a233 := Tryz.isAgg217
  z233 := Tryz.sizeOf217
  v233 := Tryz.zeroValue217
  g17 := by kernel_rfl
  g18 := by kernel_rfl
  g19 := by kernel_rfl
  i0 := by kernel_rfl
  i2 := by kernel_rfl
  i3 := by kernel_rfl
  i4 := by kernel_rfl
  i5 := by kernel_rfl
  i9 := by kernel_rfl
  i20 := by kernel_rfl
  i37 := by kernel_rfl
  i46 := by kernel_rfl
  i51 := by kernel_rfl
  i53 := by kernel_rfl
  i171 := by kernel_rfl
  i173 := by kernel_rfl
  i212 := by kernel_rfl
  i232 := by kernel_rfl
  i233 := by kernel_rfl
  m17 := by kernel_rfl
  m18 := by kernel_rfl
  m19 := by kernel_rfl }
theorem Tryz.strconv_Itoa (n : Int) (h0 : -9223372036854775808 ≤ n) (h1 : n ≤ 9223372036854775807) (w : World) (htab : Lib.TabIs Tryz.prog w "internal/strconv.uint64pow10" .u64 Lib.pow10Tab) :
    Calls Tryz.prog 80 #[.int .i64 n] w fun e w' => e = .returned (.string ⟨(Lib.itoa n).toArray⟩) ∧ ∃ k os, w' = grow (w.drewN k) os := Any.strconv_Itoa Tryz.laysM171 n h0 h1 w htab
end Go.Proofs.YtnenhckongccgaaGreatDoor
namespace Go.Proofs.YtnenhckongccgaaGreatDoor
set_option linter.unusedVariables false
set_option linter.unusedSimpArgs false
set_option maxRecDepth 20000
open Go.RowKit
attribute [local irreducible] runA runX AW
open Go.Lib (decDigits) in
theorem dd_len {n : Nat} (h : n < 1000) : 1 ≤ (decDigits n).length ∧ (decDigits n).length ≤ 3 := by
  rcases Nat.lt_or_ge n 100 with h1 | h1
  · have := dd2_of h1; omega
  · rw [Go.Lib.decDigits, dif_neg (by omega), List.length_append, List.length_singleton]
    have := dd2_of (n := n / 10) (by omega)
    omega
open Go.Lib (decDigits) in
open Go.Lib (decDigits) in
theorem itoa_calls (n : Int) (h : 0 ≤ n ∧ n < 1000) (w : World) (hg : Glo w) : Calls Tryz.prog 80 #[.int .i64 n] w fun e w' => e = .returned (.string (str (decDigits n.toNat))) ∧ Below w.heap.size w w' := by
  have htab : Lib.TabIs Tryz.prog w "internal/strconv.uint64pow10" .u64 Lib.pow10Tab := by
    obtain ⟨t, fz, hh⟩ := hg.2
    have hgn : Tryz.prog.globalNamed "internal/strconv.uint64pow10" = some 3 := by kernel_rfl
    unfold Lib.TabIs World.var?
    rw [hgn]
    simp only [Option.bind_some]
    rw [hh]
  refine (Tryz.strconv_Itoa n (by omega) (by omega) w htab).mono ?_
  rintro e w' ⟨rfl, k, os, rfl⟩
  have e1 : Lib.itoa n = decDigits n.toNat := by
    have := Lib.itoa_nonneg n.toNat
    rw [show ((n.toNat : Nat) : Int) = n by omega] at this
    exact this
  rw [e1]
  exact ⟨rfl, Lib.below_grow _ _ (Nat.le_refl _) _ _⟩
open Go.Lib (decDigits) in
theorem k_itoa3 (n : Int) (h : 0 ≤ n ∧ n < 1000) : Kon Tryz.prog 80 [vI n] [] (vS (decDigits n.toNat)) [] [] := by
  refine kon_pure (Go.Proofs.enters_of Tryz.func80 (by kernel_rfl) rfl) rfl rfl ?_
  intro w ok vs hg hok hsz hargs
  obtain ⟨z, hz, hr⟩ := hargs 0 _ rfl
  have hv : vs = #[.int .i64 n] := by
    obtain ⟨xs⟩ := vs
    match xs, hsz with
    | [y], _ =>
      cases hz
      rw [show y = .int .i64 n from hr.1]
  subst hv
  refine (itoa_calls n h w hg).mono ?_
  rintro en W' ⟨rfl, hB⟩
  exact ⟨_, rfl, hB, fun β G ok' => ⟨rfl, rfl⟩⟩
theorem gq_KGA {H G : Prop} (k : H) (h : Hid H → G := by (intro hh; repeat1' (first | (first | (refine nxA ?_; (first | refine r_pure2 (by rfl) (by rfl) (fun w => rfl) (by rfl) (by rfl) ?_ | ((first | (refine z_op (by rfl) ?_; first | refine z_ok ?_ ?_ | refine z_ex ?_ (by first | exact zL1 | ((first | refine mk_0 Int rfl rfl ?_); exact zWW) | exact zL2 | exact rw_c Int rfl | exact zL3 | fail) ?_) | ((first | refine q_callE wsT wsZ (by rfl) ?_ | refine q_callVE wsT (by rfl) (by rfl) ?_); refine ⟨_, _, _, (by first | assumption | exact k_within _ _ _ | exact k_okL _ | exact k_natures | exact k_nat1 _ (by assumption) | exact k_nat0 _ (by assumption) | exact k_some _ _ (by first | assumption | decide)), _, by rfl, ?_, ?_⟩)); focus (first | exact trivial | fail | exact zQZ)) | fail)) | refine swA ?_) | refine awA ?_); exact hh.out)) : G := h ⟨k⟩
abbrev gCs (g : Gt) : List AC := [.v (.int .i64 g.k), .v (.int .i64 g.a), .v (.int .i64 g.b), .v (.int .i64 g.c)]
abbrev gV (g : Gt) : AV := .g (.agg (gCs g))
abbrev iRow (l : List Int) : Ent := rwE 3 l
abbrev gRow (l : List Gt) : Ent := rwE 56 l
abbrev vN : AV := .g (.one (.v (.slice none 0 0)))
def ntC (k : Int) : List AC := if k = 0 then [.v (.string ⟨#[110, 111, 116]⟩), .v (.int .i64 1), .v (.int .i64 1), .v (.int .i64 1)] else if k = 1 then [.v (.string ⟨#[99, 111, 112, 121]⟩), .v (.int .i64 3), .v (.int .i64 2), .v (.int .i64 1)] else if k = 2 then [.v (.string ⟨#[98, 111, 116, 104]⟩), .v (.int .i64 7), .v (.int .i64 4), .v (.int .i64 5)] else if k = 3 then [.v (.string ⟨#[115, 119, 97, 112]⟩), .v (.int .i64 3), .v (.int .i64 3), .v (.int .i64 3)] else [.v (.string ⟨#[105, 102]⟩), .v (.int .i64 7), .v (.int .i64 6), .v (.int .i64 7)]
theorem k_natures : Kon Tryz.prog 152 [] [] (.g (.agg (ntC 0 ++ ntC 1 ++ ntC 2 ++ ntC 3 ++ ntC 4))) [] [] := by
  (refine kM Tryz.func152 rfl ?_; intro hfit hfe)
  (repeat (first | refine gq_KGA ?_ | (refine ga1A ?_; intro _q ⟨_he, _hq⟩)))
  (refine rtA ?_; try rfl)
def ntV (k : Int) : Value := if k = 0 then .agg #[.string ⟨#[110, 111, 116]⟩, .int .i64 1, .int .i64 1, .int .i64 1] else if k = 1 then .agg #[.string ⟨#[99, 111, 112, 121]⟩, .int .i64 3, .int .i64 2, .int .i64 1] else if k = 2 then .agg #[.string ⟨#[98, 111, 116, 104]⟩, .int .i64 7, .int .i64 4, .int .i64 5] else if k = 3 then .agg #[.string ⟨#[115, 119, 97, 112]⟩, .int .i64 3, .int .i64 3, .int .i64 3] else .agg #[.string ⟨#[105, 102]⟩, .int .i64 7, .int .i64 6, .int .i64 7]
theorem k_nat1 (g : Gt) (h : 0 ≤ g.k ∧ g.k ≤ 4) : Kon Tryz.prog 117 [gV g] [] (.tup [.agg (ntC g.k), .one (.v (.bool true))]) [] [] := by
  obtain ⟨k, a, b, c⟩ := g
  dsimp only at h ⊢
  have h' : k = 0 ∨ k = 1 ∨ k = 2 ∨ k = 3 ∨ k = 4 := by omega
  (refine kM Tryz.func117 rfl ?_; intro hfit hfe)
  rcases h' with rfl | rfl | rfl | rfl | rfl
  · (repeat (first | refine gq_KGA ?_ | (refine ga1A ?_; intro _q ⟨_he, _hq⟩)))
    (refine aw_draw mixed T0ok cfU_ok [(32, [4])] (by rfl) (by kernel_rfl) ?_)
    (first | ((first | refine r_none ?_ | refine r_gt (by rfl) (by rfl) zDD (by rfl) ?_ | refine r_gf (by rfl) (by rfl) zDD (by rfl) ?_); (first | refine r_pure2 (by rfl) (by rfl) (fun w => rfl) (by rfl) (by rfl) ?_ | ((first | (refine z_op (by rfl) ?_; first | refine z_ok ?_ ?_ | refine z_ex ?_ (by first | exact zL1 | ((first | refine mk_0 Int rfl rfl ?_); exact zWW) | exact zL2 | exact rw_c Int rfl | exact zL3 | fail) ?_ | refine z_al ?_ (fun _q ⟨_he, _hq⟩ => ?_)) | ((first | refine q_callE wsT wsZ (by rfl) ?_ | refine q_callVE wsT (by rfl) (by rfl) ?_); refine ⟨_, _, _, (by first | assumption | exact k_within _ _ _ | exact k_okL _ | exact k_natures | exact k_nat1 _ (by assumption) | exact k_nat0 _ (by assumption) | exact k_some _ _ (by first | assumption | decide)), _, by rfl, ?_, ?_⟩)); focus (first | exact trivial | fail | exact zQZ)) | fail)) | refine r_nt (by rfl) (by rfl) zDD (by rfl) ?_ | refine r_nf (by rfl) (by rfl) zDD (by rfl) ?_ | refine r_gu (by rfl) (by rfl) (by rfl) ?_ | refine r_nil ?_)
    (first | ((first | refine r_none ?_ | refine r_gt (by rfl) (by rfl) zDD (by rfl) ?_ | refine r_gf (by rfl) (by rfl) zDD (by rfl) ?_); (first | refine r_pure2 (by rfl) (by rfl) (fun w => rfl) (by rfl) (by rfl) ?_ | ((first | (refine z_op (by rfl) ?_; first | refine z_ok ?_ ?_ | refine z_ex ?_ (by first | exact zL1 | ((first | refine mk_0 Int rfl rfl ?_); exact zWW) | exact zL2 | exact rw_c Int rfl | exact zL3 | fail) ?_ | refine z_al ?_ (fun _q ⟨_he, _hq⟩ => ?_)) | ((first | refine q_callE wsT wsZ (by rfl) ?_ | refine q_callVE wsT (by rfl) (by rfl) ?_); refine ⟨_, _, _, (by first | assumption | exact k_within _ _ _ | exact k_okL _ | exact k_natures | exact k_nat1 _ (by assumption) | exact k_nat0 _ (by assumption) | exact k_some _ _ (by first | assumption | decide)), _, by rfl, ?_, ?_⟩)); focus (first | exact trivial | fail | exact zQZ)) | fail)) | refine r_nt (by rfl) (by rfl) zDD (by rfl) ?_ | refine r_nf (by rfl) (by rfl) zDD (by rfl) ?_ | refine r_gu (by rfl) (by rfl) (by rfl) ?_ | refine r_nil ?_)
    (first | ((first | refine r_none ?_ | refine r_gt (by rfl) (by rfl) zDD (by rfl) ?_ | refine r_gf (by rfl) (by rfl) zDD (by rfl) ?_); (first | refine r_pure2 (by rfl) (by rfl) (fun w => rfl) (by rfl) (by rfl) ?_ | ((first | (refine z_op (by rfl) ?_; first | refine z_ok ?_ ?_ | refine z_ex ?_ (by first | exact zL1 | ((first | refine mk_0 Int rfl rfl ?_); exact zWW) | exact zL2 | exact rw_c Int rfl | exact zL3 | fail) ?_ | refine z_al ?_ (fun _q ⟨_he, _hq⟩ => ?_)) | ((first | refine q_callE wsT wsZ (by rfl) ?_ | refine q_callVE wsT (by rfl) (by rfl) ?_); refine ⟨_, _, _, (by first | assumption | exact k_within _ _ _ | exact k_okL _ | exact k_natures | exact k_nat1 _ (by assumption) | exact k_nat0 _ (by assumption) | exact k_some _ _ (by first | assumption | decide)), _, by rfl, ?_, ?_⟩)); focus (first | exact trivial | fail | exact zQZ)) | fail)) | refine r_nt (by rfl) (by rfl) zDD (by rfl) ?_ | refine r_nf (by rfl) (by rfl) zDD (by rfl) ?_ | refine r_gu (by rfl) (by rfl) (by rfl) ?_ | refine r_nil ?_)
    refine r_none ?_; refine z_op (by rfl) ?_; refine z_ex ?_ (pu_of (r := ntV 0) (fun w => by kernel_rfl) rfl) ?_; focus (first | exact trivial | fail | exact zQZ)
    (repeat (first | refine gq_KGA ?_ | (refine ga1A ?_; intro _q ⟨_he, _hq⟩)))
    (refine rtA ?_; try rfl)
  · (repeat (first | refine gq_KGA ?_ | (refine ga1A ?_; intro _q ⟨_he, _hq⟩)))
    (refine aw_draw mixed T0ok cfU_ok [(32, [4])] (by rfl) (by kernel_rfl) ?_)
    (first | ((first | refine r_none ?_ | refine r_gt (by rfl) (by rfl) zDD (by rfl) ?_ | refine r_gf (by rfl) (by rfl) zDD (by rfl) ?_); (first | refine r_pure2 (by rfl) (by rfl) (fun w => rfl) (by rfl) (by rfl) ?_ | ((first | (refine z_op (by rfl) ?_; first | refine z_ok ?_ ?_ | refine z_ex ?_ (by first | exact zL1 | ((first | refine mk_0 Int rfl rfl ?_); exact zWW) | exact zL2 | exact rw_c Int rfl | exact zL3 | fail) ?_ | refine z_al ?_ (fun _q ⟨_he, _hq⟩ => ?_)) | ((first | refine q_callE wsT wsZ (by rfl) ?_ | refine q_callVE wsT (by rfl) (by rfl) ?_); refine ⟨_, _, _, (by first | assumption | exact k_within _ _ _ | exact k_okL _ | exact k_natures | exact k_nat1 _ (by assumption) | exact k_nat0 _ (by assumption) | exact k_some _ _ (by first | assumption | decide)), _, by rfl, ?_, ?_⟩)); focus (first | exact trivial | fail | exact zQZ)) | fail)) | refine r_nt (by rfl) (by rfl) zDD (by rfl) ?_ | refine r_nf (by rfl) (by rfl) zDD (by rfl) ?_ | refine r_gu (by rfl) (by rfl) (by rfl) ?_ | refine r_nil ?_)
    (first | ((first | refine r_none ?_ | refine r_gt (by rfl) (by rfl) zDD (by rfl) ?_ | refine r_gf (by rfl) (by rfl) zDD (by rfl) ?_); (first | refine r_pure2 (by rfl) (by rfl) (fun w => rfl) (by rfl) (by rfl) ?_ | ((first | (refine z_op (by rfl) ?_; first | refine z_ok ?_ ?_ | refine z_ex ?_ (by first | exact zL1 | ((first | refine mk_0 Int rfl rfl ?_); exact zWW) | exact zL2 | exact rw_c Int rfl | exact zL3 | fail) ?_ | refine z_al ?_ (fun _q ⟨_he, _hq⟩ => ?_)) | ((first | refine q_callE wsT wsZ (by rfl) ?_ | refine q_callVE wsT (by rfl) (by rfl) ?_); refine ⟨_, _, _, (by first | assumption | exact k_within _ _ _ | exact k_okL _ | exact k_natures | exact k_nat1 _ (by assumption) | exact k_nat0 _ (by assumption) | exact k_some _ _ (by first | assumption | decide)), _, by rfl, ?_, ?_⟩)); focus (first | exact trivial | fail | exact zQZ)) | fail)) | refine r_nt (by rfl) (by rfl) zDD (by rfl) ?_ | refine r_nf (by rfl) (by rfl) zDD (by rfl) ?_ | refine r_gu (by rfl) (by rfl) (by rfl) ?_ | refine r_nil ?_)
    (first | ((first | refine r_none ?_ | refine r_gt (by rfl) (by rfl) zDD (by rfl) ?_ | refine r_gf (by rfl) (by rfl) zDD (by rfl) ?_); (first | refine r_pure2 (by rfl) (by rfl) (fun w => rfl) (by rfl) (by rfl) ?_ | ((first | (refine z_op (by rfl) ?_; first | refine z_ok ?_ ?_ | refine z_ex ?_ (by first | exact zL1 | ((first | refine mk_0 Int rfl rfl ?_); exact zWW) | exact zL2 | exact rw_c Int rfl | exact zL3 | fail) ?_ | refine z_al ?_ (fun _q ⟨_he, _hq⟩ => ?_)) | ((first | refine q_callE wsT wsZ (by rfl) ?_ | refine q_callVE wsT (by rfl) (by rfl) ?_); refine ⟨_, _, _, (by first | assumption | exact k_within _ _ _ | exact k_okL _ | exact k_natures | exact k_nat1 _ (by assumption) | exact k_nat0 _ (by assumption) | exact k_some _ _ (by first | assumption | decide)), _, by rfl, ?_, ?_⟩)); focus (first | exact trivial | fail | exact zQZ)) | fail)) | refine r_nt (by rfl) (by rfl) zDD (by rfl) ?_ | refine r_nf (by rfl) (by rfl) zDD (by rfl) ?_ | refine r_gu (by rfl) (by rfl) (by rfl) ?_ | refine r_nil ?_)
    refine r_none ?_; refine z_op (by rfl) ?_; refine z_ex ?_ (pu_of (r := ntV 1) (fun w => by kernel_rfl) rfl) ?_; focus (first | exact trivial | fail | exact zQZ)
    (repeat (first | refine gq_KGA ?_ | (refine ga1A ?_; intro _q ⟨_he, _hq⟩)))
    (refine rtA ?_; try rfl)
  · (repeat (first | refine gq_KGA ?_ | (refine ga1A ?_; intro _q ⟨_he, _hq⟩)))
    (refine aw_draw mixed T0ok cfU_ok [(32, [4])] (by rfl) (by kernel_rfl) ?_)
    (first | ((first | refine r_none ?_ | refine r_gt (by rfl) (by rfl) zDD (by rfl) ?_ | refine r_gf (by rfl) (by rfl) zDD (by rfl) ?_); (first | refine r_pure2 (by rfl) (by rfl) (fun w => rfl) (by rfl) (by rfl) ?_ | ((first | (refine z_op (by rfl) ?_; first | refine z_ok ?_ ?_ | refine z_ex ?_ (by first | exact zL1 | ((first | refine mk_0 Int rfl rfl ?_); exact zWW) | exact zL2 | exact rw_c Int rfl | exact zL3 | fail) ?_ | refine z_al ?_ (fun _q ⟨_he, _hq⟩ => ?_)) | ((first | refine q_callE wsT wsZ (by rfl) ?_ | refine q_callVE wsT (by rfl) (by rfl) ?_); refine ⟨_, _, _, (by first | assumption | exact k_within _ _ _ | exact k_okL _ | exact k_natures | exact k_nat1 _ (by assumption) | exact k_nat0 _ (by assumption) | exact k_some _ _ (by first | assumption | decide)), _, by rfl, ?_, ?_⟩)); focus (first | exact trivial | fail | exact zQZ)) | fail)) | refine r_nt (by rfl) (by rfl) zDD (by rfl) ?_ | refine r_nf (by rfl) (by rfl) zDD (by rfl) ?_ | refine r_gu (by rfl) (by rfl) (by rfl) ?_ | refine r_nil ?_)
    (first | ((first | refine r_none ?_ | refine r_gt (by rfl) (by rfl) zDD (by rfl) ?_ | refine r_gf (by rfl) (by rfl) zDD (by rfl) ?_); (first | refine r_pure2 (by rfl) (by rfl) (fun w => rfl) (by rfl) (by rfl) ?_ | ((first | (refine z_op (by rfl) ?_; first | refine z_ok ?_ ?_ | refine z_ex ?_ (by first | exact zL1 | ((first | refine mk_0 Int rfl rfl ?_); exact zWW) | exact zL2 | exact rw_c Int rfl | exact zL3 | fail) ?_ | refine z_al ?_ (fun _q ⟨_he, _hq⟩ => ?_)) | ((first | refine q_callE wsT wsZ (by rfl) ?_ | refine q_callVE wsT (by rfl) (by rfl) ?_); refine ⟨_, _, _, (by first | assumption | exact k_within _ _ _ | exact k_okL _ | exact k_natures | exact k_nat1 _ (by assumption) | exact k_nat0 _ (by assumption) | exact k_some _ _ (by first | assumption | decide)), _, by rfl, ?_, ?_⟩)); focus (first | exact trivial | fail | exact zQZ)) | fail)) | refine r_nt (by rfl) (by rfl) zDD (by rfl) ?_ | refine r_nf (by rfl) (by rfl) zDD (by rfl) ?_ | refine r_gu (by rfl) (by rfl) (by rfl) ?_ | refine r_nil ?_)
    (first | ((first | refine r_none ?_ | refine r_gt (by rfl) (by rfl) zDD (by rfl) ?_ | refine r_gf (by rfl) (by rfl) zDD (by rfl) ?_); (first | refine r_pure2 (by rfl) (by rfl) (fun w => rfl) (by rfl) (by rfl) ?_ | ((first | (refine z_op (by rfl) ?_; first | refine z_ok ?_ ?_ | refine z_ex ?_ (by first | exact zL1 | ((first | refine mk_0 Int rfl rfl ?_); exact zWW) | exact zL2 | exact rw_c Int rfl | exact zL3 | fail) ?_ | refine z_al ?_ (fun _q ⟨_he, _hq⟩ => ?_)) | ((first | refine q_callE wsT wsZ (by rfl) ?_ | refine q_callVE wsT (by rfl) (by rfl) ?_); refine ⟨_, _, _, (by first | assumption | exact k_within _ _ _ | exact k_okL _ | exact k_natures | exact k_nat1 _ (by assumption) | exact k_nat0 _ (by assumption) | exact k_some _ _ (by first | assumption | decide)), _, by rfl, ?_, ?_⟩)); focus (first | exact trivial | fail | exact zQZ)) | fail)) | refine r_nt (by rfl) (by rfl) zDD (by rfl) ?_ | refine r_nf (by rfl) (by rfl) zDD (by rfl) ?_ | refine r_gu (by rfl) (by rfl) (by rfl) ?_ | refine r_nil ?_)
    refine r_none ?_; refine z_op (by rfl) ?_; refine z_ex ?_ (pu_of (r := ntV 2) (fun w => by kernel_rfl) rfl) ?_; focus (first | exact trivial | fail | exact zQZ)
    (repeat (first | refine gq_KGA ?_ | (refine ga1A ?_; intro _q ⟨_he, _hq⟩)))
    (refine rtA ?_; try rfl)
  · (repeat (first | refine gq_KGA ?_ | (refine ga1A ?_; intro _q ⟨_he, _hq⟩)))
    (refine aw_draw mixed T0ok cfU_ok [(32, [4])] (by rfl) (by kernel_rfl) ?_)
    (first | ((first | refine r_none ?_ | refine r_gt (by rfl) (by rfl) zDD (by rfl) ?_ | refine r_gf (by rfl) (by rfl) zDD (by rfl) ?_); (first | refine r_pure2 (by rfl) (by rfl) (fun w => rfl) (by rfl) (by rfl) ?_ | ((first | (refine z_op (by rfl) ?_; first | refine z_ok ?_ ?_ | refine z_ex ?_ (by first | exact zL1 | ((first | refine mk_0 Int rfl rfl ?_); exact zWW) | exact zL2 | exact rw_c Int rfl | exact zL3 | fail) ?_ | refine z_al ?_ (fun _q ⟨_he, _hq⟩ => ?_)) | ((first | refine q_callE wsT wsZ (by rfl) ?_ | refine q_callVE wsT (by rfl) (by rfl) ?_); refine ⟨_, _, _, (by first | assumption | exact k_within _ _ _ | exact k_okL _ | exact k_natures | exact k_nat1 _ (by assumption) | exact k_nat0 _ (by assumption) | exact k_some _ _ (by first | assumption | decide)), _, by rfl, ?_, ?_⟩)); focus (first | exact trivial | fail | exact zQZ)) | fail)) | refine r_nt (by rfl) (by rfl) zDD (by rfl) ?_ | refine r_nf (by rfl) (by rfl) zDD (by rfl) ?_ | refine r_gu (by rfl) (by rfl) (by rfl) ?_ | refine r_nil ?_)
    (first | ((first | refine r_none ?_ | refine r_gt (by rfl) (by rfl) zDD (by rfl) ?_ | refine r_gf (by rfl) (by rfl) zDD (by rfl) ?_); (first | refine r_pure2 (by rfl) (by rfl) (fun w => rfl) (by rfl) (by rfl) ?_ | ((first | (refine z_op (by rfl) ?_; first | refine z_ok ?_ ?_ | refine z_ex ?_ (by first | exact zL1 | ((first | refine mk_0 Int rfl rfl ?_); exact zWW) | exact zL2 | exact rw_c Int rfl | exact zL3 | fail) ?_ | refine z_al ?_ (fun _q ⟨_he, _hq⟩ => ?_)) | ((first | refine q_callE wsT wsZ (by rfl) ?_ | refine q_callVE wsT (by rfl) (by rfl) ?_); refine ⟨_, _, _, (by first | assumption | exact k_within _ _ _ | exact k_okL _ | exact k_natures | exact k_nat1 _ (by assumption) | exact k_nat0 _ (by assumption) | exact k_some _ _ (by first | assumption | decide)), _, by rfl, ?_, ?_⟩)); focus (first | exact trivial | fail | exact zQZ)) | fail)) | refine r_nt (by rfl) (by rfl) zDD (by rfl) ?_ | refine r_nf (by rfl) (by rfl) zDD (by rfl) ?_ | refine r_gu (by rfl) (by rfl) (by rfl) ?_ | refine r_nil ?_)
    (first | ((first | refine r_none ?_ | refine r_gt (by rfl) (by rfl) zDD (by rfl) ?_ | refine r_gf (by rfl) (by rfl) zDD (by rfl) ?_); (first | refine r_pure2 (by rfl) (by rfl) (fun w => rfl) (by rfl) (by rfl) ?_ | ((first | (refine z_op (by rfl) ?_; first | refine z_ok ?_ ?_ | refine z_ex ?_ (by first | exact zL1 | ((first | refine mk_0 Int rfl rfl ?_); exact zWW) | exact zL2 | exact rw_c Int rfl | exact zL3 | fail) ?_ | refine z_al ?_ (fun _q ⟨_he, _hq⟩ => ?_)) | ((first | refine q_callE wsT wsZ (by rfl) ?_ | refine q_callVE wsT (by rfl) (by rfl) ?_); refine ⟨_, _, _, (by first | assumption | exact k_within _ _ _ | exact k_okL _ | exact k_natures | exact k_nat1 _ (by assumption) | exact k_nat0 _ (by assumption) | exact k_some _ _ (by first | assumption | decide)), _, by rfl, ?_, ?_⟩)); focus (first | exact trivial | fail | exact zQZ)) | fail)) | refine r_nt (by rfl) (by rfl) zDD (by rfl) ?_ | refine r_nf (by rfl) (by rfl) zDD (by rfl) ?_ | refine r_gu (by rfl) (by rfl) (by rfl) ?_ | refine r_nil ?_)
    refine r_none ?_; refine z_op (by rfl) ?_; refine z_ex ?_ (pu_of (r := ntV 3) (fun w => by kernel_rfl) rfl) ?_; focus (first | exact trivial | fail | exact zQZ)
    (repeat (first | refine gq_KGA ?_ | (refine ga1A ?_; intro _q ⟨_he, _hq⟩)))
    (refine rtA ?_; try rfl)
  · (repeat (first | refine gq_KGA ?_ | (refine ga1A ?_; intro _q ⟨_he, _hq⟩)))
    (refine aw_draw mixed T0ok cfU_ok [(32, [4])] (by rfl) (by kernel_rfl) ?_)
    (first | ((first | refine r_none ?_ | refine r_gt (by rfl) (by rfl) zDD (by rfl) ?_ | refine r_gf (by rfl) (by rfl) zDD (by rfl) ?_); (first | refine r_pure2 (by rfl) (by rfl) (fun w => rfl) (by rfl) (by rfl) ?_ | ((first | (refine z_op (by rfl) ?_; first | refine z_ok ?_ ?_ | refine z_ex ?_ (by first | exact zL1 | ((first | refine mk_0 Int rfl rfl ?_); exact zWW) | exact zL2 | exact rw_c Int rfl | exact zL3 | fail) ?_ | refine z_al ?_ (fun _q ⟨_he, _hq⟩ => ?_)) | ((first | refine q_callE wsT wsZ (by rfl) ?_ | refine q_callVE wsT (by rfl) (by rfl) ?_); refine ⟨_, _, _, (by first | assumption | exact k_within _ _ _ | exact k_okL _ | exact k_natures | exact k_nat1 _ (by assumption) | exact k_nat0 _ (by assumption) | exact k_some _ _ (by first | assumption | decide)), _, by rfl, ?_, ?_⟩)); focus (first | exact trivial | fail | exact zQZ)) | fail)) | refine r_nt (by rfl) (by rfl) zDD (by rfl) ?_ | refine r_nf (by rfl) (by rfl) zDD (by rfl) ?_ | refine r_gu (by rfl) (by rfl) (by rfl) ?_ | refine r_nil ?_)
    (first | ((first | refine r_none ?_ | refine r_gt (by rfl) (by rfl) zDD (by rfl) ?_ | refine r_gf (by rfl) (by rfl) zDD (by rfl) ?_); (first | refine r_pure2 (by rfl) (by rfl) (fun w => rfl) (by rfl) (by rfl) ?_ | ((first | (refine z_op (by rfl) ?_; first | refine z_ok ?_ ?_ | refine z_ex ?_ (by first | exact zL1 | ((first | refine mk_0 Int rfl rfl ?_); exact zWW) | exact zL2 | exact rw_c Int rfl | exact zL3 | fail) ?_ | refine z_al ?_ (fun _q ⟨_he, _hq⟩ => ?_)) | ((first | refine q_callE wsT wsZ (by rfl) ?_ | refine q_callVE wsT (by rfl) (by rfl) ?_); refine ⟨_, _, _, (by first | assumption | exact k_within _ _ _ | exact k_okL _ | exact k_natures | exact k_nat1 _ (by assumption) | exact k_nat0 _ (by assumption) | exact k_some _ _ (by first | assumption | decide)), _, by rfl, ?_, ?_⟩)); focus (first | exact trivial | fail | exact zQZ)) | fail)) | refine r_nt (by rfl) (by rfl) zDD (by rfl) ?_ | refine r_nf (by rfl) (by rfl) zDD (by rfl) ?_ | refine r_gu (by rfl) (by rfl) (by rfl) ?_ | refine r_nil ?_)
    (first | ((first | refine r_none ?_ | refine r_gt (by rfl) (by rfl) zDD (by rfl) ?_ | refine r_gf (by rfl) (by rfl) zDD (by rfl) ?_); (first | refine r_pure2 (by rfl) (by rfl) (fun w => rfl) (by rfl) (by rfl) ?_ | ((first | (refine z_op (by rfl) ?_; first | refine z_ok ?_ ?_ | refine z_ex ?_ (by first | exact zL1 | ((first | refine mk_0 Int rfl rfl ?_); exact zWW) | exact zL2 | exact rw_c Int rfl | exact zL3 | fail) ?_ | refine z_al ?_ (fun _q ⟨_he, _hq⟩ => ?_)) | ((first | refine q_callE wsT wsZ (by rfl) ?_ | refine q_callVE wsT (by rfl) (by rfl) ?_); refine ⟨_, _, _, (by first | assumption | exact k_within _ _ _ | exact k_okL _ | exact k_natures | exact k_nat1 _ (by assumption) | exact k_nat0 _ (by assumption) | exact k_some _ _ (by first | assumption | decide)), _, by rfl, ?_, ?_⟩)); focus (first | exact trivial | fail | exact zQZ)) | fail)) | refine r_nt (by rfl) (by rfl) zDD (by rfl) ?_ | refine r_nf (by rfl) (by rfl) zDD (by rfl) ?_ | refine r_gu (by rfl) (by rfl) (by rfl) ?_ | refine r_nil ?_)
    refine r_none ?_; refine z_op (by rfl) ?_; refine z_ex ?_ (pu_of (r := ntV 4) (fun w => by kernel_rfl) rfl) ?_; focus (first | exact trivial | fail | exact zQZ)
    (repeat (first | refine gq_KGA ?_ | (refine ga1A ?_; intro _q ⟨_he, _hq⟩)))
    (refine rtA ?_; try rfl)
theorem k_nat0 (g : Gt) (h : btw g.k 0 4 = false) : Kon Tryz.prog 117 [gV g] [] (.tup [.agg [.v (.string ⟨#[]⟩), .v (.int .i64 0), .v (.int .i64 0), .v (.int .i64 0)], .one (.v (.bool false))]) [] [] := by
  (refine kM Tryz.func117 rfl ?_; intro hfit hfe)
  (repeat (first | refine gq_KGA ?_ | (refine ga1A ?_; intro _q ⟨_he, _hq⟩)))
  (refine rtA ?_; try rfl)
def smL (s : Int) (g : Gt) : List Int := if s = 1 then [g.a] else if s = 2 then [g.b] else if s = 3 then [g.a, g.b] else if s = 4 then [g.c] else if s = 6 then [g.b, g.c] else if s = 7 then [g.a, g.b, g.c] else if s = -2 then [g.b, g.c] else if s = -4 then [g.c] else []
def okSet (s : Int) : Prop := s = 1 ∨ s = 2 ∨ s = 3 ∨ s = 4 ∨ s = 6 ∨ s = 7 ∨ s = -2 ∨ s = -4 ∨ s = -8
instance (s : Int) : Decidable (okSet s) := by unfold okSet; infer_instance
set_option maxHeartbeats 4000000 in
theorem k_some (g : Gt) (s : Int) (h : okSet s) : Kon Tryz.prog 118 [gV g, vI s] [] (slA 0 0 (smL s g)) [iRow (smL s g)] [] := by
  (refine kM Tryz.func118 rfl ?_; intro hfit hfe)
  rcases h with rfl | rfl | rfl | rfl | rfl | rfl | rfl | rfl | rfl
  all_goals
    repeat (first | (first | refine aw_seq ?_ | refine aw_ct (by rfl) zDD ?_ | refine aw_cf (by rfl) zDD ?_ | refine aw_block ?_ | refine aw_region T0ok cfU_ok (by rfl) ?_ | refine aw_skip ?_ | refine aw_exit ?_ | refine ra_step ?_) | (first | ((first | refine r_none ?_ | refine r_gt (by rfl) (by rfl) zDD (by rfl) ?_ | refine r_gf (by rfl) (by rfl) zDD (by rfl) ?_); (first | refine r_pure2 (by rfl) (by rfl) (fun w => rfl) (by rfl) (by rfl) ?_ | ((first | (refine z_op (by rfl) ?_; first | refine z_ok ?_ ?_ | refine z_ex ?_ (by first | exact zL1 | ((first | refine mk_0 Int rfl rfl ?_); exact zWW) | exact zL2 | exact rw_c Int rfl | exact zL3 | fail) ?_ | refine z_al ?_ (fun _q ⟨_he, _hq⟩ => ?_)) | ((first | refine q_callE wsT wsZ (by rfl) ?_ | refine q_callVE wsT (by rfl) (by rfl) ?_); refine ⟨_, _, _, (by first | assumption | exact k_within _ _ _ | exact k_okL _ | exact k_natures | exact k_nat1 _ (by assumption) | exact k_nat0 _ (by assumption) | exact k_some _ _ (by first | assumption | decide)), _, by rfl, ?_, ?_⟩)); focus (first | exact trivial | fail | exact zQZ)) | fail)) | refine r_nt (by rfl) (by rfl) zDD (by rfl) ?_ | refine r_nf (by rfl) (by rfl) zDD (by rfl) ?_ | refine r_gu (by rfl) (by rfl) (by rfl) ?_ | refine r_nil ?_) | refine aw_unroll 5 ?_)
    (refine rtA ?_; try rfl)
def lns (g : Gt) : List Int := if g.k = 0 then [g.a] else if g.k = 1 ∨ g.k = 3 then [g.a, g.b] else if g.k = 2 ∨ g.k = 4 then [g.a, g.b, g.c] else []
theorem k_lines (g : Gt) (h : 0 ≤ g.k ∧ g.k ≤ 4) : Kon Tryz.prog 181 [gV g] [] (slA 0 0 (lns g)) [iRow (lns g)] [] := by
  have hK := k_nat1 g h
  obtain ⟨k, a, b, c⟩ := g
  dsimp only at h hK ⊢
  have h' : k = 0 ∨ k = 1 ∨ k = 2 ∨ k = 3 ∨ k = 4 := by omega
  (refine kM Tryz.func181 rfl ?_; intro hfit hfe)
  rcases h' with rfl | rfl | rfl | rfl | rfl
  all_goals
    (repeat (first | refine gq_KGA ?_ | (refine ga1A ?_; intro _q ⟨_he, _hq⟩)))
    (refine rtA ?_; try rfl)
end Go.Proofs.YtnenhckongccgaaGreatDoor
namespace Go.Proofs.YtnenhckongccgaaGreatDoor
set_option linter.unusedVariables false
set_option linter.unusedSimpArgs false
theorem sb_and {w a : Int} (hw : 0 ≤ w) : ((((w / 2 ^ a.toNat).toNat &&& Int.toNat 1 : Nat)) : Int) = if bt w a then 1 else 0 := by
  have e : (w / 2 ^ a.toNat).toNat = w.toNat >>> a.toNat := by
    rw [Nat.shiftRight_eq_div_pow]
    obtain ⟨m, rfl⟩ := Int.eq_ofNat_of_zero_le hw
    rw [show ((m : Int) / 2 ^ a.toNat) = ((m / 2 ^ a.toNat : Nat) : Int) by simp, Int.toNat_natCast, Int.toNat_natCast]
  rw [e]
  unfold bt
  rw [Nat.testBit, Nat.and_comm]
  show ((((1 &&& w.toNat >>> a.toNat : Nat)) : Int)) = _
  have h := Nat.mod_two_eq_zero_or_one (w.toNat >>> a.toNat)
  rw [Nat.and_comm, Nat.and_one_is_mod]
  rcases h with h | h <;> rw [h] <;> rfl
theorem sb_mod {w a : Int} (hw : 0 ≤ w) : w / 2 ^ a.toNat % 2 = if bt w a then 1 else 0 := by
  rw [← sb_and hw]
  have h0 : 0 ≤ w / 2 ^ a.toNat := Int.ediv_nonneg hw (Int.pow_nonneg (by decide))
  obtain ⟨m, hm⟩ := Int.eq_ofNat_of_zero_le h0
  rw [hm, Int.toNat_natCast]
  show _ = ((m &&& 1 : Nat) : Int)
  rw [Nat.and_one_is_mod]
  omega
theorem xor_add : ∀ w < 256, ∀ i < 8, w.testBit i = false → w ^^^ 2 ^ i = w + 2 ^ i := by decide +kernel
theorem xor_sub : ∀ w < 256, ∀ i < 8, w.testBit i = true → (w ^^^ 2 ^ i) + 2 ^ i = w := by decide +kernel
theorem turn_eq {w a : Int} (hw : 0 ≤ w ∧ w < 256) (ha : 0 ≤ a ∧ a < 8) : (if bt w a then w - 1 * 2 ^ a.toNat else w + 1 * 2 ^ a.toNat) = ((w.toNat ^^^ 2 ^ a.toNat : Nat) : Int) := by
  have h1 : w.toNat < 256 := by omega
  have h2 : a.toNat < 8 := by omega
  have e : ((2 : Int) ^ a.toNat) = ((2 ^ a.toNat : Nat) : Int) := by simp
  have e2 : ((w.toNat : Nat) : Int) = w := Int.toNat_of_nonneg hw.1
  rw [Int.one_mul, e]
  unfold bt
  cases hb : w.toNat.testBit a.toNat with
  | false =>
    have := xor_add _ h1 _ h2 hb
    rw [if_neg (by decide)]; omega
  | true =>
    have := xor_sub _ h1 _ h2 hb
    rw [if_pos rfl]; omega
theorem gr_if (g : Gt) {w : Int} (hw : 0 ≤ w) : gr g w = if gc g w then ((w.toNat ^^^ gm g : Nat) : Int) else w := by
  unfold gr
  split
  · rfl
  · exact Int.toNat_of_nonneg hw
theorem pow_nat (a : Int) : ((2 : Int) ^ a.toNat).toNat = 2 ^ a.toNat := by
  rw [show ((2 : Int) ^ a.toNat) = ((2 ^ a.toNat : Nat) : Int) by simp, Int.toNat_natCast]
theorem pow_8 {n : Int} (h : 1 ≤ n ∧ n ≤ 8) : 2 ≤ (2 : Int) ^ n.toNat ∧ (2 : Int) ^ n.toNat ≤ 256 := by
  obtain rfl | rfl | rfl | rfl | rfl | rfl | rfl | rfl : n = 1 ∨ n = 2 ∨ n = 3 ∨ n = 4 ∨ n = 5 ∨ n = 6 ∨ n = 7 ∨ n = 8 := by omega
  all_goals decide
theorem pow_7 {n : Int} (h : 0 ≤ n ∧ n ≤ 7) : 1 ≤ (2 : Int) ^ n.toNat ∧ (2 : Int) ^ n.toNat ≤ 128 := by
  obtain rfl | rfl | rfl | rfl | rfl | rfl | rfl | rfl : n = 0 ∨ n = 1 ∨ n = 2 ∨ n = 3 ∨ n = 4 ∨ n = 5 ∨ n = 6 ∨ n = 7 := by omega
  all_goals decide
def gvL (n : Int) : Nat → List Int → Bool
  | _, [] => true
  | s, x :: l => btw x 0 (n - 1) && !(s.testBit x.toNat) && gvL n (s ||| 2 ^ x.toNat) l
def z0 (l : List Int) : Bool := l.all (· == 0)
theorem or_bit (s a b : Nat) : (s ||| 2 ^ a).testBit b = (s.testBit b || decide (a = b)) := by rw [Nat.testBit_or, Nat.testBit_two_pow]
theorem btw8 (n x : Int) : btw x 0 (n - 1) = in8 n x := by
  unfold btw in8
  congr 1
  exact decide_eq_decide.2 (by omega)
theorem nat_ne {n a b : Int} (ha : in8 n a = true) (hb : in8 n b = true) : decide (a.toNat = b.toNat) = (b == a) := by
  simp only [in8, Bool.and_eq_true, decide_eq_true_eq] at ha hb
  by_cases h : a = b
  · subst h; simp
  · have : (b == a) = false := by rw [beq_eq_false_iff_ne]; exact Ne.symm h
    rw [this]; exact decide_eq_false (by omega)
theorem gvL1 (n a : Int) : gvL n 0 [a] = in8 n a := by simp [gvL, btw8]
theorem gvL2 (n a b : Int) : gvL n 0 [a, b] = (in8 n a && in8 n b && (b != a)) := by
  simp only [gvL, btw8, or_bit, Nat.zero_testBit, Bool.false_or, Bool.and_true, Bool.not_false]
  cases ha : in8 n a <;> cases hb : in8 n b <;> first | (simp; done) | (rw [nat_ne ha hb]; rfl)
theorem gvL3 (n a b c : Int) : gvL n 0 [a, b, c] = (in8 n a && in8 n b && (b != a) && in8 n c && (c != a) && (c != b)) := by
  simp only [gvL, btw8, or_bit, Nat.zero_testBit, Bool.false_or, Bool.and_true, Bool.not_false]
  cases ha : in8 n a <;> cases hb : in8 n b <;> cases hc : in8 n c <;> first | (simp; done) | (rw [nat_ne ha hb, nat_ne ha hc, nat_ne hb hc]; unfold bne; cases (b == a) <;> cases (c == a) <;> cases (c == b) <;> rfl)
def ntM (k : Int) : Int := if k = 0 then 1 else if k = 1 ∨ k = 3 then 3 else 7
def ntL (g : Gt) : List Int := if g.k = 0 then [g.a] else if g.k = 1 ∨ g.k = 3 then [g.a, g.b] else [g.a, g.b, g.c]
def ntR (g : Gt) : List Int := if g.k = 0 then [g.b, g.c] else if g.k = 1 ∨ g.k = 3 then [g.c] else []
theorem gok_nt {n : Int} {g : Gt} (h : 0 ≤ g.k ∧ g.k ≤ 4) (hn : btw n 1 8 = true) : gok n g = (gvL n 0 (ntL g) && z0 (ntR g)) := by
  have e : okLn n = true := hn
  unfold gok
  rw [e, Bool.true_and]
  unfold gokL ntL ntR
  have h' : g.k = 0 ∨ g.k = 1 ∨ g.k = 2 ∨ g.k = 3 ∨ g.k = 4 := by omega
  rcases h' with h' | h' | h' | h' | h' <;> simp [h', gvL1, gvL2, gvL3, z0, Bool.and_assoc]
theorem gok_k {n : Int} {g : Gt} (h : btw g.k 0 4 = false) : gok n g = false := by
  have := btw_f h
  unfold gok gokL
  rw [if_neg (by omega), if_neg (by omega), if_neg (by omega), Bool.and_false]
theorem gok_n {n : Int} {g : Gt} (h : btw n 1 8 = false) : gok n g = false := by
  have e : okLn n = false := h
  unfold gok; rw [e, Bool.false_and]
end Go.Proofs.YtnenhckongccgaaGreatDoor
namespace Go.Proofs.YtnenhckongccgaaGreatDoor
set_option linter.unusedVariables false
set_option linter.unusedSimpArgs false
set_option maxRecDepth 20000
open Go.RowKit
attribute [local irreducible] runA runX AW
theorem gq_KGE {H G : Prop} (k : H) (h : Hid H → G := by (intro hh; repeat1' (first | (first | (refine nxA ?_; (first | (refine z_op (by rfl) ?_; refine z_ex ?_ (pu_of hm rfl) ?_; focus (first | exact trivial | fail | exact zQZ)) | ((first | (refine z_op (by rfl) ?_; first | refine z_ok ?_ ?_ | refine z_ex ?_ (by first | exact zL1 | ((first | fail); exact zWW) | exact zL2 | fail | exact zL3 | fail) ?_) | ((first | refine q_callE wsT wsZ (by rfl) ?_ | refine q_callVE wsT (by rfl) (by rfl) ?_); refine ⟨_, _, _, (by first | assumption | exact k_within _ _ _ | exact k_okL _ | exact k_nat0 _ (by assumption)), _, by rfl, ?_, ?_⟩)); focus (first | exact trivial | fail | exact zQZ)) | fail)) | refine swA ?_) | refine awA ?_); exact hh.out)) : G := h ⟨k⟩
theorem hm0 : ∀ w : World, (Op.unary .not (.bool true)).run Tryz.prog w = .ok (.bool false) w := fun w => rfl
theorem k_gv00 (n : Int) (g : Gt) (h : btw g.k 0 4 = false) : Kon Tryz.prog 109 [vI n, gV g] [] (vB false) [] [] := by
  have hm := hm0
  (refine kM Tryz.func109 rfl ?_; intro hfit hfe)
  (repeat (first | refine gq_KGE ?_ | (refine ga0A ?_; intro _hq)))
  (refine rtA ?_; try rfl)
theorem seen_nat (s : Nat) (x : Int) : (((((((s : Nat) : Int) / 2 ^ x.toNat).toNat &&& Int.toNat 1 : Nat) : Int)) == 1) = s.testBit x.toNat := by
  rw [sb_and (Int.natCast_nonneg s)]
  unfold bt
  rw [Int.toNat_natCast]
  cases s.testBit x.toNat <;> rfl
theorem or_lt8 {s : Nat} {x : Int} (hs : s < 256) (hx : 0 ≤ x ∧ x ≤ 7) : s ||| 2 ^ x.toNat < 256 := Nat.or_lt_two_pow (n := 8) hs (Nat.pow_lt_pow_right (by omega) (by omega))
theorem or_cast (s : Nat) (x : Int) : ((((s : Nat) : Int).toNat ||| (1 * 2 ^ x.toNat : Int).toNat : Nat) : Int) = ((s ||| 2 ^ x.toNat : Nat) : Int) := by
  rw [Int.toNat_natCast, Int.one_mul, pow_nat]
theorem gvL_drop {n : Int} {s i : Nat} {L : List Int} (hi : i < L.length) : gvL n s (L.drop i) = (btw (L.getD i 0) 0 (n - 1) && !(s.testBit (L.getD i 0).toNat) && gvL n (s ||| 2 ^ (L.getD i 0).toNat) (L.drop (i + 1))) := by
  rw [List.drop_eq_getElem_cons hi]
  simp [gvL, List.getD_eq_getElem?_getD, hi]
theorem z0_drop {i : Nat} {L : List Int} (hi : i < L.length) : z0 (L.drop i) = ((L.getD i 0 == 0) && z0 (L.drop (i + 1))) := by
  rw [List.drop_eq_getElem_cons hi]
  have e : L.getD i 0 = L[i] := by simp [List.getD_eq_getElem?_getD, hi]
  rw [e]; rfl
set_option maxHeartbeats 1000000 in
theorem gv_core (n : Int) (g : Gt) (x1 x3 x4 : Value) (m m2 : Int) (L L2 : List Int) (hK : Kon Tryz.prog 117 [gV g] [] (.tup [.agg [.v x1, .v (.int .i64 m), .v x3, .v x4], .one (.v (.bool true))]) [] [])
    (hS : Kon Tryz.prog 118 [gV g, vI m] [] (slA 0 0 L) [iRow L] []) (hS2 : Kon Tryz.prog 118 [gV g, vI m2] [] (slA 0 0 L2) [iRow L2] [])
    (hm : ∀ w, (Op.unary .xor (.int .i64 m)).run Tryz.prog w = .ok (.int .i64 m2) w) (hL : L.length ≤ 3) (hL2 : L2.length ≤ 3) : Kon Tryz.prog 109 [vI n, gV g] [] (vB (btw n 1 8 && (gvL n 0 L && z0 L2))) [] [] := by
  cases hn : btw n 1 8 with
  | false =>
    (refine kM Tryz.func109 rfl ?_; intro hfit hfe)
    (repeat (first | refine gq_KGE ?_ | (refine ga0A ?_; intro _hq)))
    (refine rtA ?_; try rfl)
  | true =>
  have hn' := btw_t hn
  rw [Bool.true_and]
  (refine kM Tryz.func109 rfl ?_; intro hfit hfe)
  (repeat (first | refine gq_KGE ?_ | (refine ga0A ?_; intro _hq)))
  (refine aw_rd [0, 3, 5, 27, 28] [48, 432, 80] (fun g : Nat × Nat => [(7, vI g.2), (29, vI g.1)]) (fun _ => []) (fun g => g.1 ≤ L.length ∧ g.2 < 256 ∧ gvL n g.2 (L.drop g.1) = gvL n 0 L) (fun g => L.length - g.1) (0, 0) (by rfl) (by rfl) ?_ (by rfl) zHE zHE ?_)
  · exact ⟨Nat.zero_le _, by decide, by rw [List.drop_zero]⟩
  rintro ⟨i, s⟩ ⟨hi, hs, hg⟩
  dsimp only at hi hs hg ⊢
  rcases Nat.lt_or_ge i L.length with h5 | h5
  · have hd : decide ((i : Int) < (L.length : Int)) = true := by simpa using h5
    obtain ⟨x, hx⟩ : ∃ x, L.getD (i : Int).toNat (Cel.no : Int) = x := ⟨_, rfl⟩
    have hx' : L.getD i 0 = x := hx
    rw [gvL_drop h5, hx'] at hg
    (repeat (first | refine gq_KGE ?_ | (refine ga0A ?_; intro _hq)))
    rw [hx]
    cases hb : btw x 0 (n - 1) with
    | false =>
      rw [hb, Bool.false_and, Bool.false_and] at hg
      rw [← hg, Bool.false_and]
      (repeat (first | refine gq_KGE ?_ | (refine ga0A ?_; intro _hq)))
      (refine rtA ?_; try rfl)
    | true =>
      have hb' := btw_t hb
      have hp := pow_7 (n := x) (by omega)
      have hn1 := seen_nat s x
      have hs2 := or_lt8 (s := s) (x := x) hs (by omega)
      rw [hb, Bool.true_and] at hg
      cases hv : s.testBit x.toNat with
      | true =>
        rw [hv, Bool.not_true, Bool.false_and] at hg
        rw [hv] at hn1
        rw [← hg, Bool.false_and]
        (repeat (first | refine gq_KGE ?_ | (refine ga0A ?_; intro _hq)))
        (refine rtA ?_; try rfl)
      | false =>
        rw [hv, Bool.not_false, Bool.true_and] at hg
        rw [hv] at hn1
        have hinv : i + 1 ≤ L.length ∧ s ||| 2 ^ x.toNat < 256 ∧ gvL n (s ||| 2 ^ x.toNat) (L.drop (i + 1)) = gvL n 0 L := ⟨h5, hs2, hg⟩
        have e := or_cast s x
        (repeat (first | refine gq_KGE ?_ | (refine ga0A ?_; intro _hq)))
        rw [e]
        exact ⟨(i + 1, s ||| 2 ^ x.toNat), hinv, ⟨by rfl, zHE, zHE⟩, (by first | omega | (dsimp only; omega))⟩
  · have hd : decide ((i : Int) < (L.length : Int)) = false := by simp; omega
    rw [List.drop_of_length_le h5] at hg
    rw [← hg]
    clear hg
    (repeat (first | refine gq_KGE ?_ | (refine ga0A ?_; intro _hq)))
    (refine aw_rd [54, 55] [864] (fun i : Nat => [(56, vI i)]) (fun _ => []) (fun i => i ≤ L2.length ∧ z0 (L2.drop i) = z0 L2) (fun i => L2.length - i) 0 (by rfl) (by rfl) ?_ (by rfl) zHE zHE ?_)
    · exact ⟨Nat.zero_le _, by rw [List.drop_zero]⟩
    rintro j ⟨hj, hz⟩
    rcases Nat.lt_or_ge j L2.length with h6 | h6
    · have hd : decide ((j : Int) < (L2.length : Int)) = true := by simpa using h6
      obtain ⟨x, hx⟩ : ∃ x, L2.getD (j : Int).toNat (Cel.no : Int) = x := ⟨_, rfl⟩
      have hx' : L2.getD j 0 = x := hx
      rw [z0_drop h6, hx'] at hz
      (repeat (first | refine gq_KGE ?_ | (refine ga0A ?_; intro _hq)))
      rw [hx]
      cases hb : (x != 0) with
      | true =>
        have e : (x == 0) = false := by rw [bne] at hb; simpa using hb
        rw [e, Bool.false_and] at hz
        rw [← hz]
        (repeat (first | refine gq_KGE ?_ | (refine ga0A ?_; intro _hq)))
        (refine rtA ?_; try rfl)
      | false =>
        have e : (x == 0) = true := by rw [bne] at hb; simpa using hb
        rw [e, Bool.true_and] at hz
        have hinv : j + 1 ≤ L2.length ∧ z0 (L2.drop (j + 1)) = z0 L2 := ⟨h6, hz⟩
        (repeat (first | refine gq_KGE ?_ | (refine ga0A ?_; intro _hq)))
        exact ⟨j + 1, hinv, ⟨by rfl, zHE, zHE⟩, (by first | omega | (dsimp only; omega))⟩
    · have hd : decide ((j : Int) < (L2.length : Int)) = false := by simp; omega
      rw [List.drop_of_length_le h6] at hz
      rw [← hz]
      (repeat (first | refine gq_KGE ?_ | (refine ga0A ?_; intro _hq)))
      (refine rtA ?_; try rfl)
theorem k_gv (n : Int) (g : Gt) : Kon Tryz.prog 109 [vI n, gV g] [] (vB (gok n g)) [] [] := by
  cases hk : btw g.k 0 4 with
  | false => rw [gok_k hk]; exact k_gv00 n g hk
  | true =>
    have hk' := btw_t hk
    have hK := k_nat1 g hk'
    cases hn : btw n 1 8 with
    | false =>
      rw [gok_n hn]
      obtain ⟨k, a, b, c⟩ := g
      dsimp only at hk' hK ⊢
      have h' : k = 0 ∨ k = 1 ∨ k = 2 ∨ k = 3 ∨ k = 4 := by omega
      have hm := hm0
      rcases h' with rfl | rfl | rfl | rfl | rfl
      all_goals
        (refine kM Tryz.func109 rfl ?_; intro hfit hfe)
        (repeat (first | refine gq_KGE ?_ | (refine ga0A ?_; intro _hq)))
        (refine rtA ?_; try rfl)
    | true =>
      rw [gok_nt hk' hn]
      have hG : ∀ (x1 x3 x4 : Value) (m m2 : Int) (L L2 : List Int), _ → _ → _ → _ → _ → _ → Kon Tryz.prog 109 [vI n, gV g] [] (vB (btw n 1 8 && (gvL n 0 L && z0 L2))) [] [] := gv_core n g
      rw [hn] at hG
      simp only [Bool.true_and] at hG
      obtain ⟨k, a, b, c⟩ := g
      dsimp only at hk' hK ⊢
      have h' : k = 0 ∨ k = 1 ∨ k = 2 ∨ k = 3 ∨ k = 4 := by omega
      rcases h' with rfl | rfl | rfl | rfl | rfl
      · exact hG _ _ _ 1 (-2) [a] [b, c] hK (k_some _ 1 (by decide)) (k_some _ (-2) (by decide)) (fun w => rfl) (by simp) (by simp)
      · exact hG _ _ _ 3 (-4) [a, b] [c] hK (k_some _ 3 (by decide)) (k_some _ (-4) (by decide)) (fun w => rfl) (by simp) (by simp)
      · exact hG _ _ _ 7 (-8) [a, b, c] [] hK (k_some _ 7 (by decide)) (k_some _ (-8) (by decide)) (fun w => rfl) (by simp) (by simp)
      · exact hG _ _ _ 3 (-4) [a, b] [c] hK (k_some _ 3 (by decide)) (k_some _ (-4) (by decide)) (fun w => rfl) (by simp) (by simp)
      · exact hG _ _ _ 7 (-8) [a, b, c] [] hK (k_some _ 7 (by decide)) (k_some _ (-8) (by decide)) (fun w => rfl) (by simp) (by simp)
theorem gq_KGH {H G : Prop} (k : H) (h : Hid H → G := by (intro hh; repeat1' (first | (first | (refine nxA ?_; (first | fail | ((first | (refine z_op (by rfl) ?_; first | refine z_ok ?_ ?_ | refine z_ex ?_ (by first | exact zL1 | ((first | fail); exact zWW) | exact zL2 | exact rw_c Int rfl | exact zL3 | fail) ?_) | ((first | refine q_callE wsT wsZ (by rfl) ?_ | refine q_callVE wsT (by rfl) (by rfl) ?_); refine ⟨_, _, _, (by first | assumption | exact k_l1In _ _ _ | exact k_linesS _ | exact k_has _ _ (by omega) | exact k_wvS2 _ _ | exact k_bitS _ _ (by omega) | exact k_turnS _ _ (by omega)), _, by rfl, ?_, ?_⟩)); focus (first | exact trivial | fail | exact zQZ)) | fail)) | refine swA ?_) | refine awA ?_); exact hh.out)) : G := h ⟨k⟩
theorem gs_KGH {H G : Prop} (k : H) (h : Hid H → G := by (intro hh; repeat1' (first | (refine nxA ?_; (first | fail | ((first | (refine z_op (by rfl) ?_; first | refine z_ok ?_ ?_ | refine z_ex ?_ (by first | exact zL1 | ((first | fail); exact zWW) | exact zL2 | exact rw_c Int rfl | exact zL3 | fail) ?_) | ((first | refine q_callE wsT wsZ (by rfl) ?_ | refine q_callVE wsT (by rfl) (by rfl) ?_); refine ⟨_, _, _, (by first | assumption | exact k_l1In _ _ _ | exact k_linesS _ | exact k_has _ _ (by omega) | exact k_wvS2 _ _ | exact k_bitS _ _ (by omega) | exact k_turnS _ _ (by omega)), _, by rfl, ?_, ?_⟩)); focus (first | exact trivial | fail | exact zQZ)) | fail)) | refine swA ?_); exact hh.out)) : G := h ⟨k⟩
theorem k_linesS (g : Gt) : Kon Tryz.prog 102 [gV g] [] (slA 0 0 (lns g)) [iRow (lns g)] [] := by
  obtain ⟨k, a, b, c⟩ := g
  by_cases h0 : k = 0
  · subst h0
    (refine kM Tryz.func102 rfl ?_; intro hfit hfe)
    (repeat (first | refine gq_KGH ?_ | (refine ga0A ?_; intro _hq)))
    (refine rtA ?_; try rfl)
  by_cases h1 : k = 1
  · subst h1
    (refine kM Tryz.func102 rfl ?_; intro hfit hfe)
    (repeat (first | refine gq_KGH ?_ | (refine ga0A ?_; intro _hq)))
    (refine rtA ?_; try rfl)
  by_cases h2 : k = 2
  · subst h2
    (refine kM Tryz.func102 rfl ?_; intro hfit hfe)
    (repeat (first | refine gq_KGH ?_ | (refine ga0A ?_; intro _hq)))
    (refine rtA ?_; try rfl)
  by_cases h3 : k = 3
  · subst h3
    (refine kM Tryz.func102 rfl ?_; intro hfit hfe)
    (repeat (first | refine gq_KGH ?_ | (refine ga0A ?_; intro _hq)))
    (refine rtA ?_; try rfl)
  by_cases h4 : k = 4
  · subst h4
    (refine kM Tryz.func102 rfl ?_; intro hfit hfe)
    (repeat (first | refine gq_KGH ?_ | (refine ga0A ?_; intro _hq)))
    (refine rtA ?_; try rfl)
  have e : lns ⟨k, a, b, c⟩ = [] := by simp [lns, h0, h1, h2, h3, h4]
  have e0 : (k == 0) = false := by simpa using h0
  have e1 : (k == 1) = false := by simpa using h1
  have e2 : (k == 2) = false := by simpa using h2
  have e3 : (k == 3) = false := by simpa using h3
  have e4 : (k == 4) = false := by simpa using h4
  rw [e]
  clear e h0 h1 h2 h3 h4
  (refine kM Tryz.func102 rfl ?_; intro hfit hfe)
  (repeat (first | refine gq_KGH ?_ | (refine ga0A ?_; intro _hq)))
  (refine rtA ?_; try rfl)
def hasB (l : List Int) (x : Int) : Bool := l.any (· == x)
theorem has_drop {l : List Int} {x : Int} {i : Nat} (hi : i < l.length) : hasB (l.drop i) x = ((l.getD i 0 == x) || hasB (l.drop (i + 1)) x) := by
  have e : l.getD i 0 = l[i] := by simp [List.getD_eq_getElem?_getD, hi]
  rw [List.drop_eq_getElem_cons hi, e]; rfl
theorem k_has (l : List Int) (x : Int) (h : l.length ≤ 100000000) : Kon Tryz.prog 143 [roA l, vI x] [] (vB (hasB l x)) [] [] := by
  (refine kM Tryz.func143 rfl ?_; intro hfit hfe)
  (repeat (first | refine gq_KGH ?_ | (refine ga0A ?_; intro _hq)))
  (refine aw_rd [0, 1] [] (fun i : Nat => [(5, vI i)]) (fun _ => []) (fun i => i ≤ l.length ∧ hasB (l.drop i) x = hasB l x) (fun i => l.length - i) 0 (by rfl) (by rfl) ?_ (by rfl) zHE zHE ?_)
  · exact ⟨Nat.zero_le _, by rw [List.drop_zero]⟩
  rintro i ⟨hi, hz⟩
  rcases Nat.lt_or_ge i l.length with h6 | h6
  · have hd : decide ((i : Int) < (l.length : Int)) = true := by simpa using h6
    have e := has_drop (x := x) h6
    rw [hz] at e
    cases hb : (l.getD i 0 == x) with
    | true =>
      have hb2 : (l.getD (i : Int).toNat (Cel.no : Int) == x) = true := hb
      rw [hb, Bool.true_or] at e
      rw [e]
      clear e hz
      (repeat (first | refine gq_KGH ?_ | (refine ga0A ?_; intro _hq)))
      (refine rtA ?_; try rfl)
    | false =>
      have hb2 : (l.getD (i : Int).toNat (Cel.no : Int) == x) = false := hb
      rw [hb, Bool.false_or] at e
      have hinv : i + 1 ≤ l.length ∧ hasB (l.drop (i + 1)) x = hasB l x := ⟨h6, e.symm⟩
      clear e hz
      (repeat (first | refine gq_KGH ?_ | (refine ga0A ?_; intro _hq)))
      exact ⟨i + 1, hinv, ⟨by rfl, zHE, zHE⟩, (by first | omega | (dsimp only; omega))⟩
  · have hd : decide ((i : Int) < (l.length : Int)) = false := by simp; omega
    rw [List.drop_of_length_le h6] at hz
    rw [← hz]
    clear hz
    (repeat (first | refine gq_KGH ?_ | (refine ga0A ?_; intro _hq)))
    (refine rtA ?_; try rfl)
theorem k_wvS2 (n w : Int) : Kon Tryz.prog 57 [vI n, vI w] [] (vB (wvB n w)) [] [] := by
  (refine kM Tryz.func57 rfl ?_; intro hfit hfe)
  unfold wvB
  cases h1 : btw n 1 8 with
  | false => (repeat (first | refine gq_KGH ?_ | (refine ga0A ?_; intro _hq))); (refine rtA ?_; try rfl)
  | true =>
    have h1' := btw_t h1
    (repeat (first | refine gq_KGH ?_ | (refine ga0A ?_; intro _hq)))
    (subst_vars; (refine rtA ?_; try rfl))
    rw [Int.one_mul]; rfl
theorem k_bitS (w a : Int) (h : 0 ≤ w ∧ w < 256 ∧ 0 ≤ a ∧ a ≤ 60) : Kon Tryz.prog 141 [vI w, vI a] [] (vI (if bt w a then 1 else 0)) [] [] := by
  rw [← sb_mod h.1]
  (refine kM Tryz.func141 rfl ?_; intro hfit hfe)
  (repeat (first | refine gq_KGH ?_ | (refine ga0A ?_; intro _hq)))
  (refine rtA ?_; try rfl)
theorem k_turnS (w a : Int) (h : 0 ≤ w ∧ w < 256 ∧ 0 ≤ a ∧ a ≤ 7) : Kon Tryz.prog 142 [vI w, vI a] [] (vI ((w.toNat ^^^ 2 ^ a.toNat : Nat) : Int)) [] [] := by
  have hp := pow_7 (n := a) (by omega)
  have e := turn_eq (w := w) (a := a) ⟨h.1, h.2.1⟩ (by omega)
  rw [← e]
  have hK := k_bitS w a (by omega)
  cases hb : bt w a <;> rw [hb] at hK <;> clear e
  all_goals
    (refine kM Tryz.func142 rfl ?_; intro hfit hfe)
    (repeat (first | refine gq_KGH ?_ | (refine ga0A ?_; intro _hq)))
    (refine rtA ?_; try rfl)
def gsL (n : Int) (L : List Int) : Nat → Nat → Bool
  | 0, _ => true
  | f + 1, i => btw (L.getD i 0) 0 (n - 1) && (!(hasB (L.take i) (L.getD i 0)) && gsL n L f (i + 1))
def gvS (n : Int) (g : Gt) : Bool := gsL n (lns g) (lns g).length 0 && (btw n 1 8 && (decide ((lns g).length > 0) && ((decide ((lns g).length > 1) || g.b == 0) && (decide ((lns g).length > 2) || g.c == 0))))
theorem beqC (a b : Int) : (a == b) = (b == a) := by rw [Bool.eq_iff_iff, beq_iff_eq, beq_iff_eq]; exact eq_comm
theorem gvS_eq (n : Int) (g : Gt) : gvS n g = gok n g := by
  cases hk : btw g.k 0 4 with
  | false =>
    have h := btw_f hk
    have e : lns g = [] := by simp [lns, show ¬ g.k = 0 by omega, show ¬ g.k = 1 by omega, show ¬ g.k = 2 by omega, show ¬ g.k = 3 by omega, show ¬ g.k = 4 by omega]
    unfold gvS
    rw [e, gok_k hk]
    simp
  | true =>
    have hk' := btw_t hk
    cases hn : btw n 1 8 with
    | false => rw [gok_n hn]; unfold gvS; rw [hn]; simp
    | true =>
      rw [gok_nt hk' hn]
      have h' : g.k = 0 ∨ g.k = 1 ∨ g.k = 2 ∨ g.k = 3 ∨ g.k = 4 := by omega
      unfold gvS ntL ntR lns
      rw [hn]
      rcases h' with h' | h' | h' | h' | h' <;> simp [h', gvL1, gvL2, gvL3, z0, gsL, btw8, hasB, Bool.and_assoc, bne, beqC g.a g.b, beqC g.a g.c, beqC g.b g.c]
set_option maxHeartbeats 1000000 in
theorem k_gvSa (n : Int) (g : Gt) (hr : -9223372036854775807 ≤ n ∧ n ≤ 9223372036854775807) : Kon Tryz.prog 98 [vI n, gV g] [] (vB (gok n g)) [] [] := by
  rw [← gvS_eq]
  have hK := k_linesS g
  have hL : (lns g).length ≤ 3 := by unfold lns; split <;> (try split) <;> (try split) <;> simp
  unfold gvS
  obtain ⟨L, eL⟩ : ∃ L, L = lns g := ⟨_, rfl⟩
  rw [← eL] at hK hL ⊢
  obtain ⟨k, a, b, c⟩ := g
  clear eL
  dsimp only
  (refine kM Tryz.func98 rfl ?_; intro hfit hfe)
  (repeat refine gcA ?_)
  (repeat (first | refine gs_KGH ?_ | (refine ga0A ?_; intro _hq)))
  (repeat refine gcA ?_)
  (repeat (first | refine gs_KGH ?_ | (refine ga0A ?_; intro _hq)))
  (refine aw_freeze 128 (by rfl) (by rfl) ?_; refine aw_slot 5 1 (by rfl) (by rfl) (by first | exact trivial | omega | exact cvB (fun w => rfl) | ((repeat (any_goals (first | exact rfl | exact cV_len _ | exact cV_ln rfl (by omega) | exact Cel.pos | omega | exact trivial | refine And.intro ?_ ?_))); first | done | fail) | (simp [*]; first | done | fail)) ?_)
  (repeat (first | refine gq_KGH ?_ | (refine ga0A ?_; intro _hq)))
  (refine aw_rd [0, 3, 5] [48] (fun i : Nat => [(6, vI i)]) (fun _ => []) (fun i => i ≤ L.length ∧ gsL n L (L.length - i) i = gsL n L L.length 0) (fun i => L.length - i) 0 (by rfl) (by rfl) ?_ (by rfl) zHE zHE ?_)
  · exact ⟨Nat.zero_le _, rfl⟩
  rintro i ⟨hi, hz⟩
  rcases Nat.lt_or_ge i L.length with h6 | h6
  · have hd : decide ((i : Int) < (L.length : Int)) = true := by simpa using h6
    rw [show L.length - i = (L.length - (i + 1)) + 1 by omega, gsL] at hz
    replace hz : (btw (L.getD (i : Int).toNat (Cel.no : Int)) 0 (n - 1) && (!(hasB (L.take (i : Int).toNat) (L.getD (i : Int).toNat (Cel.no : Int))) && gsL n L (L.length - (i + 1)) (i + 1))) = gsL n L L.length 0 := hz
    cases hb : btw (L.getD (i : Int).toNat (Cel.no : Int)) 0 (n - 1) with
    | false =>
      rw [hb, Bool.false_and] at hz
      rw [← hz, Bool.false_and]
      clear hz
      (repeat (first | refine gq_KGH ?_ | (refine ga0A ?_; intro _hq) | refine gdA ?_))
      (refine rtA ?_; try rfl)
    | true =>
      rw [hb, Bool.true_and] at hz
      have hK2 : Kon Tryz.prog 143 [roA (L.take (i : Int).toNat), vI (L.getD (i : Int).toNat (Cel.no : Int))] [] (vB (hasB (L.take (i : Int).toNat) (L.getD (i : Int).toNat (Cel.no : Int)))) [] [] := k_has _ _ (by simp; omega)
      cases hv : hasB (L.take (i : Int).toNat) (L.getD (i : Int).toNat (Cel.no : Int)) with
      | true =>
        rw [hv, Bool.not_true, Bool.false_and] at hz
        rw [← hz, Bool.false_and]
        clear hz
        (repeat (first | refine gq_KGH ?_ | (refine ga0A ?_; intro _hq) | refine gdA ?_))
        (refine rtA ?_; try rfl)
      | false =>
        rw [hv, Bool.not_false, Bool.true_and] at hz
        have hinv : i + 1 ≤ L.length ∧ gsL n L (L.length - (i + 1)) (i + 1) = gsL n L L.length 0 := ⟨h6, hz⟩
        clear hz
        (repeat (first | refine gq_KGH ?_ | (refine ga0A ?_; intro _hq) | refine gdA ?_))
        exact ⟨i + 1, hinv, ⟨by rfl, zHE, zHE⟩, (by first | omega | (dsimp only; omega))⟩
  · have hd : decide ((i : Int) < (L.length : Int)) = false := by simp; omega
    have e0 : L.length - i = 0 := by omega
    rw [e0, gsL] at hz
    rw [← hz, Bool.true_and]
    clear hz e0
    cases hn : btw n 1 8 with
    | false => 
      (repeat (first | refine gq_KGH ?_ | (refine ga0A ?_; intro _hq) | refine gdA ?_))
      (refine rtA ?_; try rfl)
    | true =>
      rw [Bool.true_and]
      cases h1 : decide ((L.length : Int) > 0) with
      | false =>
        have e : decide (L.length > 0) = false := by simpa using h1
        rw [e, Bool.false_and]
        (repeat (first | refine gq_KGH ?_ | (refine ga0A ?_; intro _hq) | refine gdA ?_))
        (refine rtA ?_; try rfl)
      | true =>
        have e : decide (L.length > 0) = true := by simpa using h1
        rw [e, Bool.true_and]
        clear e
        have e2 : decide ((L.length : Int) > 1) = decide (L.length > 1) := decide_eq_decide.2 (by omega)
        have e3 : decide ((L.length : Int) > 2) = decide (L.length > 2) := decide_eq_decide.2 (by omega)
        rw [← e2, ← e3]
        clear e2 e3
        cases h2 : decide ((L.length : Int) > 1) <;> cases h3 : decide ((L.length : Int) > 2) <;> cases h4 : (b == 0)
        all_goals
          (repeat (first | refine gq_KGH ?_ | (refine ga0A ?_; intro _hq) | refine gdA ?_))
          (refine rtA ?_; try rfl)
theorem gq_KGM {H G : Prop} (k : H) (h : Hid H → G := by (intro hh; repeat1' (first | (first | (refine nxA ?_; (first | (refine r_pure2 (o := .sub) (r := .int .i64 9223372036854775807) (by rfl) (by rfl) (fun w => by kernel_rfl) (by rfl) (by rfl) ?_) | ((first | (refine z_op (by rfl) ?_; first | refine z_ok ?_ ?_ | refine z_ex ?_ (by first | exact zL1 | ((first | fail); exact zWW) | exact zL2 | fail | exact zL3 | fail) ?_) | ((first | refine q_callE wsT wsZ (by rfl) ?_ | refine q_callVE wsT (by rfl) (by rfl) ?_); refine ⟨_, _, _, (by first | assumption | exact k_l1In _ _ _ | exact k_linesS _), _, by rfl, ?_, ?_⟩)); focus (first | exact trivial | fail | exact zQZ)) | fail)) | refine swA ?_) | refine awA ?_); exact hh.out)) : G := h ⟨k⟩
theorem gs_KGM {H G : Prop} (k : H) (h : Hid H → G := by (intro hh; repeat1' (first | (refine nxA ?_; (first | (refine r_pure2 (o := .sub) (r := .int .i64 9223372036854775807) (by rfl) (by rfl) (fun w => by kernel_rfl) (by rfl) (by rfl) ?_) | ((first | (refine z_op (by rfl) ?_; first | refine z_ok ?_ ?_ | refine z_ex ?_ (by first | exact zL1 | ((first | fail); exact zWW) | exact zL2 | fail | exact zL3 | fail) ?_) | ((first | refine q_callE wsT wsZ (by rfl) ?_ | refine q_callVE wsT (by rfl) (by rfl) ?_); refine ⟨_, _, _, (by first | assumption | exact k_l1In _ _ _ | exact k_linesS _), _, by rfl, ?_, ?_⟩)); focus (first | exact trivial | fail | exact zQZ)) | fail)) | refine swA ?_); exact hh.out)) : G := h ⟨k⟩
set_option maxHeartbeats 1000000 in
theorem k_gvSm (g : Gt) : Kon Tryz.prog 98 [vI (-9223372036854775808), gV g] [] (vB false) [] [] := by
  have hK := k_linesS g
  have hL : (lns g).length ≤ 3 := by unfold lns; split <;> (try split) <;> (try split) <;> simp
  obtain ⟨L, eL⟩ : ∃ L, L = lns g := ⟨_, rfl⟩
  rw [← eL] at hK hL
  obtain ⟨k, a, b, c⟩ := g
  clear eL
  (refine kM Tryz.func98 rfl ?_; intro hfit hfe)
  (repeat refine gcA ?_)
  (repeat (first | refine gs_KGM ?_ | (refine ga0A ?_; intro _hq)))
  (repeat refine gcA ?_)
  (repeat (first | refine gs_KGM ?_ | (refine ga0A ?_; intro _hq)))
  (refine aw_freeze 128 (by rfl) (by rfl) ?_; refine aw_slot 5 1 (by rfl) (by rfl) (by first | exact trivial | omega | exact cvB (fun w => rfl) | ((repeat (any_goals (first | exact rfl | exact cV_len _ | exact cV_ln rfl (by omega) | exact Cel.pos | omega | exact trivial | refine And.intro ?_ ?_))); first | done | fail) | (simp [*]; first | done | fail)) ?_)
  (repeat (first | refine gq_KGM ?_ | (refine ga0A ?_; intro _hq)))
  (refine aw_rd [0, 3, 5] [48] (fun i : Nat => [(6, vI i)]) (fun _ => []) (fun i => i ≤ L.length) (fun i => L.length - i) 0 (by rfl) (by rfl) ?_ (by rfl) zHE zHE ?_)
  · exact Nat.zero_le _
  rintro i hi
  rcases Nat.lt_or_ge i L.length with h6 | h6
  · have hd : decide ((i : Int) < (L.length : Int)) = true := by simpa using h6
    cases hb : btw (L.getD (i : Int).toNat (Cel.no : Int)) 0 9223372036854775807 with
    | false =>
      (repeat (first | refine gq_KGM ?_ | (refine ga0A ?_; intro _hq) | refine gdA ?_))
      (refine rtA ?_; try rfl)
    | true =>
      have hK2 : Kon Tryz.prog 143 [roA (L.take (i : Int).toNat), vI (L.getD (i : Int).toNat (Cel.no : Int))] [] (vB (hasB (L.take (i : Int).toNat) (L.getD (i : Int).toNat (Cel.no : Int)))) [] [] := k_has _ _ (by simp; omega)
      cases hv : hasB (L.take (i : Int).toNat) (L.getD (i : Int).toNat (Cel.no : Int)) with
      | true =>
        (repeat (first | refine gq_KGM ?_ | (refine ga0A ?_; intro _hq) | refine gdA ?_))
        (refine rtA ?_; try rfl)
      | false =>
        (repeat (first | refine gq_KGM ?_ | (refine ga0A ?_; intro _hq) | refine gdA ?_))
        exact ⟨i + 1, h6, ⟨by rfl, zHE, zHE⟩, (by first | omega | (dsimp only; omega))⟩
  · have hd : decide ((i : Int) < (L.length : Int)) = false := by simp; omega
    have hn : btw (-9223372036854775808) 1 8 = false := rfl
    (repeat (first | refine gq_KGM ?_ | (refine ga0A ?_; intro _hq) | refine gdA ?_))
    (refine rtA ?_; try rfl)
theorem k_gvS (n : Int) (g : Gt) (hr : -9223372036854775808 ≤ n ∧ n ≤ 9223372036854775807) : Kon Tryz.prog 98 [vI n, gV g] [] (vB (gok n g)) [] [] := by
  by_cases h : n = -9223372036854775808
  · subst h
    rw [gok_n rfl]
    exact k_gvSm g
  · exact k_gvSa n g (by omega)
end Go.Proofs.YtnenhckongccgaaGreatDoor
