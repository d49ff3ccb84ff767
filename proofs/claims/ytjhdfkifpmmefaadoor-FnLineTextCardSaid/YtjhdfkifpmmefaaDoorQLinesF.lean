/- Tab, ZA, LI, LE, ShlA, LA, LB0: laid into one text. -/
import Derived.Test.YtjhdfkifpmmefaaDoorQLinesD
import Derived.Test.YtjhdfkifpmmefaaDoorQLinesE
import Derived.Test.YtjhdfkifpmmefaaDoorRows
import Derived.ChangeKeysEq
import Derived.Shelf.Lays
import Derived.Shelf.Strconv.Itoa3
import Derived.Shelf.Strings.OnBuilder
import Derived.Test.YtjhdfkifpmmefaaDoorProg

/- The table of this program's types. -/
namespace Go.Proofs.YtjhdfkifpmmefaaDoor
set_option maxRecDepth 10000
theorem allN {α : Type} {Q : α → Prop} : ∀ p ∈ ([] : List α), Q p := fun p hp => by cases hp
theorem allC {α : Type} {Q : α → Prop} {x : α} {l : List α} (h : Q x) (h' : ∀ p ∈ l, Q p) : ∀ p ∈ x :: l, Q p := fun p hp => by
  rcases List.mem_cons.1 hp with rfl | hp
  · exact h
  · exact h' p hp
def T0 : Tab := ⟨[(2, (false, 1)), (3, (false, 1)), (4, (false, 1)), (5, (false, 1)), (9, (false, 1)), (12, (false, 1)), (13, (true, 2)), (19, (true, 1)), (21, (false, 1)), (22, (true, 4)), (23, (true, 4)), (25, (true, 4)), (28, (false, 1)), (38, (false, 1)), (39, (true, 3)), (40, (true, 3)), (49, (true, 5)), (50, (true, 5)), (51, (true, 45)), (53, (false, 1)), (54, (true, 3)), (55, (true, 3)), (58, (false, 1)), (68, (false, 1)), (69, (true, 3)), (75, (false, 1)), (77, (false, 1)), (78, (true, 2)), (79, (true, 2)), (91, (false, 1)), (93, (true, 2)), (94, (true, 2)), (98, (false, 1)), (100, (false, 1)), (106, (false, 1)), (109, (false, 1)), (116, (true, 24)), (117, (false, 1)), (128, (false, 1)), (130, (true, 3)), (131, (true, 3)), (134, (true, 20)), (135, (false, 1)), (140, (true, 1)), (144, (true, 2)), (145, (true, 2)), (146, (true, 32)), (149, (true, 32)), (150, (true, 64))],
  [(13000, (0, false, 1)), (13001, (1, false, 1)), (19000, (0, false, 1)), (22000, (0, false, 1)), (22001, (1, false, 1)), (22002, (2, false, 1)), (22003, (3, false, 1)), (23000, (0, false, 1)), (23001, (1, false, 1)), (23002, (2, false, 1)), (23003, (3, false, 1)), (25000, (0, false, 1)), (25001, (1, false, 1)), (25002, (2, false, 1)), (25003, (3, false, 1)), (39000, (0, false, 1)), (39001, (1, false, 1)), (39002, (2, false, 1)), (40000, (0, false, 1)), (40001, (1, false, 1)), (40002, (2, false, 1)), (49000, (0, false, 1)), (49001, (1, false, 1)), (49002, (2, false, 1)), (49003, (3, false, 1)), (49004, (4, false, 1)), (50000, (0, false, 1)), (50001, (1, false, 1)), (50002, (2, false, 1)), (50003, (3, false, 1)), (50004, (4, false, 1)), (78000, (0, false, 1)), (78001, (1, false, 1)), (79000, (0, false, 1)), (79001, (1, false, 1)), (93000, (0, false, 1)), (93001, (1, false, 1)), (94000, (0, false, 1)), (94001, (1, false, 1)), (130000, (0, false, 1)), (130001, (1, false, 1)), (130002, (2, false, 1)), (131000, (0, false, 1)), (131001, (1, false, 1)), (131002, (2, false, 1)), (140000, (0, false, 1)), (144000, (0, false, 1)), (144001, (1, false, 1)), (145000, (0, false, 1)), (145001, (1, false, 1))],
  [(28, (none, 5, false, 1, 1)), (38, (none, 4, false, 1, 1)), (51, (some 9, 50, true, 5, 32)), (53, (none, 9, false, 1, 16)), (54, (some 3, 4, false, 1, 1)), (55, (some 3, 3, false, 1, 8)), (69, (some 3, 68, false, 1, 8)), (91, (none, 3, false, 1, 8)), (116, (some 24, 5, false, 1, 1)), (134, (some 20, 117, false, 1, 8)), (146, (some 16, 145, true, 2, 2)), (149, (some 32, 5, false, 1, 1)), (150, (some 64, 5, false, 1, 1))],
  [(2, [.int .i64 0]), (3, [.int .i64 0]), (4, [.bool false]), (5, [.int .u8 0]), (9, [.string ByteArray.empty]), (12, [.int .u64 0]), (13, [.string ByteArray.empty, .int .u64 0]), (19, [.pointer none]), (21, [.int .i32 0]), (22, [.int .i64 0, .int .i64 0, .int .i64 0, .int .i64 0]), (23, [.int .i64 0, .int .i64 0, .int .i64 0, .int .i64 0]), (25, [.int .i64 0, .int .i64 0, .int .i64 0, .int .i64 0]), (28, [.slice none 0 0]), (38, [.slice none 0 0]), (39, [.int .i64 0, .slice none 0 0, .bool false]), (40, [.int .i64 0, .slice none 0 0, .bool false]), (49, [.string ByteArray.empty, .bool false, .bool false, .bool false, .int .i64 0]), (50, [.string ByteArray.empty, .bool false, .bool false, .bool false, .int .i64 0]), (51, [.string ByteArray.empty, .bool false, .bool false, .bool false, .int .i64 0, .string ByteArray.empty, .bool false, .bool false, .bool false, .int .i64 0, .string ByteArray.empty, .bool false, .bool false, .bool false, .int .i64 0, .string ByteArray.empty, .bool false, .bool false, .bool false, .int .i64 0, .string ByteArray.empty, .bool false, .bool false, .bool false, .int .i64 0, .string ByteArray.empty, .bool false, .bool false, .bool false, .int .i64 0, .string ByteArray.empty, .bool false, .bool false, .bool false, .int .i64 0, .string ByteArray.empty, .bool false, .bool false, .bool false, .int .i64 0, .string ByteArray.empty, .bool false, .bool false, .bool false, .int .i64 0]), (53, [.slice none 0 0]), (54, [.bool false, .bool false, .bool false]), (55, [.int .i64 0, .int .i64 0, .int .i64 0]), (58, [.pointer none]), (68, [.pointer none]), (69, [.pointer none, .pointer none, .pointer none]), (75, [.nilFunc]), (77, [.pointer none]), (78, [.pointer none, .slice none 0 0]), (79, [.pointer none, .slice none 0 0]), (91, [.slice none 0 0]), (93, [.slice none 0 0, .int .i64 0]), (94, [.slice none 0 0, .int .i64 0]), (98, [.pointer none]), (100, [.nilFunc]), (106, [.int .i64 0]), (109, [.pointer none]), (116, [.int .u8 0, .int .u8 0, .int .u8 0, .int .u8 0, .int .u8 0, .int .u8 0, .int .u8 0, .int .u8 0, .int .u8 0, .int .u8 0, .int .u8 0, .int .u8 0, .int .u8 0, .int .u8 0, .int .u8 0, .int .u8 0, .int .u8 0, .int .u8 0, .int .u8 0, .int .u8 0, .int .u8 0, .int .u8 0, .int .u8 0, .int .u8 0]), (117, [.int .u64 0]), (128, [.int .u64 0]), (130, [.string ByteArray.empty, .string ByteArray.empty, .nilIface]), (131, [.string ByteArray.empty, .string ByteArray.empty, .nilIface]), (134, [.int .u64 0, .int .u64 0, .int .u64 0, .int .u64 0, .int .u64 0, .int .u64 0, .int .u64 0, .int .u64 0, .int .u64 0, .int .u64 0, .int .u64 0, .int .u64 0, .int .u64 0, .int .u64 0, .int .u64 0, .int .u64 0, .int .u64 0, .int .u64 0, .int .u64 0, .int .u64 0]), (135, [.int .u32 0]), (140, [.string ByteArray.empty]), (144, [.int .u8 0, .int .u8 0]), (145, [.int .u8 0, .int .u8 0]), (146, [.int .u8 0, .int .u8 0, .int .u8 0, .int .u8 0, .int .u8 0, .int .u8 0, .int .u8 0, .int .u8 0, .int .u8 0, .int .u8 0, .int .u8 0, .int .u8 0, .int .u8 0, .int .u8 0, .int .u8 0, .int .u8 0, .int .u8 0, .int .u8 0, .int .u8 0, .int .u8 0, .int .u8 0, .int .u8 0, .int .u8 0, .int .u8 0, .int .u8 0, .int .u8 0, .int .u8 0, .int .u8 0, .int .u8 0, .int .u8 0, .int .u8 0, .int .u8 0]), (149, [.int .u8 0, .int .u8 0, .int .u8 0, .int .u8 0, .int .u8 0, .int .u8 0, .int .u8 0, .int .u8 0, .int .u8 0, .int .u8 0, .int .u8 0, .int .u8 0, .int .u8 0, .int .u8 0, .int .u8 0, .int .u8 0, .int .u8 0, .int .u8 0, .int .u8 0, .int .u8 0, .int .u8 0, .int .u8 0, .int .u8 0, .int .u8 0, .int .u8 0, .int .u8 0, .int .u8 0, .int .u8 0, .int .u8 0, .int .u8 0, .int .u8 0, .int .u8 0]), (150, [.int .u8 0, .int .u8 0, .int .u8 0, .int .u8 0, .int .u8 0, .int .u8 0, .int .u8 0, .int .u8 0, .int .u8 0, .int .u8 0, .int .u8 0, .int .u8 0, .int .u8 0, .int .u8 0, .int .u8 0, .int .u8 0, .int .u8 0, .int .u8 0, .int .u8 0, .int .u8 0, .int .u8 0, .int .u8 0, .int .u8 0, .int .u8 0, .int .u8 0, .int .u8 0, .int .u8 0, .int .u8 0, .int .u8 0, .int .u8 0, .int .u8 0, .int .u8 0, .int .u8 0, .int .u8 0, .int .u8 0, .int .u8 0, .int .u8 0, .int .u8 0, .int .u8 0, .int .u8 0, .int .u8 0, .int .u8 0, .int .u8 0, .int .u8 0, .int .u8 0, .int .u8 0, .int .u8 0, .int .u8 0, .int .u8 0, .int .u8 0, .int .u8 0, .int .u8 0, .int .u8 0, .int .u8 0, .int .u8 0, .int .u8 0, .int .u8 0, .int .u8 0, .int .u8 0, .int .u8 0, .int .u8 0, .int .u8 0, .int .u8 0, .int .u8 0])],
  [(13, ([.string ByteArray.empty, .int .u64 0], some [(0, 1), (1, 1)], 0)), (19, ([.pointer none], some [(0, 1)], 0)), (22, ([.int .i64 0, .int .i64 0, .int .i64 0, .int .i64 0], some [(0, 1), (1, 1), (2, 1), (3, 1)], 0)), (23, ([.int .i64 0, .int .i64 0, .int .i64 0, .int .i64 0], some [(0, 1), (1, 1), (2, 1), (3, 1)], 0)), (25, ([.int .i64 0, .int .i64 0, .int .i64 0, .int .i64 0], some [(0, 1), (1, 1), (2, 1), (3, 1)], 0)), (39, ([.int .i64 0, .slice none 0 0, .bool false], some [(0, 1), (1, 1), (2, 1)], 0)), (40, ([.int .i64 0, .slice none 0 0, .bool false], some [(0, 1), (1, 1), (2, 1)], 0)), (49, ([.string ByteArray.empty, .bool false, .bool false, .bool false, .int .i64 0], some [(0, 1), (1, 1), (2, 1), (3, 1), (4, 1)], 0)), (50, ([.string ByteArray.empty, .bool false, .bool false, .bool false, .int .i64 0], some [(0, 1), (1, 1), (2, 1), (3, 1), (4, 1)], 0)), (51, ([.string ByteArray.empty, .bool false, .bool false, .bool false, .int .i64 0, .string ByteArray.empty, .bool false, .bool false, .bool false, .int .i64 0, .string ByteArray.empty, .bool false, .bool false, .bool false, .int .i64 0, .string ByteArray.empty, .bool false, .bool false, .bool false, .int .i64 0, .string ByteArray.empty, .bool false, .bool false, .bool false, .int .i64 0, .string ByteArray.empty, .bool false, .bool false, .bool false, .int .i64 0, .string ByteArray.empty, .bool false, .bool false, .bool false, .int .i64 0, .string ByteArray.empty, .bool false, .bool false, .bool false, .int .i64 0, .string ByteArray.empty, .bool false, .bool false, .bool false, .int .i64 0], none, 5)), (54, ([.bool false, .bool false, .bool false], none, 1)), (55, ([.int .i64 0, .int .i64 0, .int .i64 0], none, 1)), (69, ([.pointer none, .pointer none, .pointer none], none, 1)), (78, ([.pointer none, .slice none 0 0], some [(0, 1), (1, 1)], 0)), (79, ([.pointer none, .slice none 0 0], some [(0, 1), (1, 1)], 0)), (93, ([.slice none 0 0, .int .i64 0], some [(0, 1), (1, 1)], 0)), (94, ([.slice none 0 0, .int .i64 0], some [(0, 1), (1, 1)], 0)), (116, ([.int .u8 0, .int .u8 0, .int .u8 0, .int .u8 0, .int .u8 0, .int .u8 0, .int .u8 0, .int .u8 0, .int .u8 0, .int .u8 0, .int .u8 0, .int .u8 0, .int .u8 0, .int .u8 0, .int .u8 0, .int .u8 0, .int .u8 0, .int .u8 0, .int .u8 0, .int .u8 0, .int .u8 0, .int .u8 0, .int .u8 0, .int .u8 0], none, 1)), (130, ([.string ByteArray.empty, .string ByteArray.empty, .nilIface], some [(0, 1), (1, 1), (2, 1)], 0)), (131, ([.string ByteArray.empty, .string ByteArray.empty, .nilIface], some [(0, 1), (1, 1), (2, 1)], 0)), (134, ([.int .u64 0, .int .u64 0, .int .u64 0, .int .u64 0, .int .u64 0, .int .u64 0, .int .u64 0, .int .u64 0, .int .u64 0, .int .u64 0, .int .u64 0, .int .u64 0, .int .u64 0, .int .u64 0, .int .u64 0, .int .u64 0, .int .u64 0, .int .u64 0, .int .u64 0, .int .u64 0], none, 1)), (140, ([.string ByteArray.empty], some [(0, 1)], 0)), (144, ([.int .u8 0, .int .u8 0], some [(0, 1), (1, 1)], 0)), (145, ([.int .u8 0, .int .u8 0], some [(0, 1), (1, 1)], 0)), (146, ([.int .u8 0, .int .u8 0, .int .u8 0, .int .u8 0, .int .u8 0, .int .u8 0, .int .u8 0, .int .u8 0, .int .u8 0, .int .u8 0, .int .u8 0, .int .u8 0, .int .u8 0, .int .u8 0, .int .u8 0, .int .u8 0, .int .u8 0, .int .u8 0, .int .u8 0, .int .u8 0, .int .u8 0, .int .u8 0, .int .u8 0, .int .u8 0, .int .u8 0, .int .u8 0, .int .u8 0, .int .u8 0, .int .u8 0, .int .u8 0, .int .u8 0, .int .u8 0], none, 2)), (149, ([.int .u8 0, .int .u8 0, .int .u8 0, .int .u8 0, .int .u8 0, .int .u8 0, .int .u8 0, .int .u8 0, .int .u8 0, .int .u8 0, .int .u8 0, .int .u8 0, .int .u8 0, .int .u8 0, .int .u8 0, .int .u8 0, .int .u8 0, .int .u8 0, .int .u8 0, .int .u8 0, .int .u8 0, .int .u8 0, .int .u8 0, .int .u8 0, .int .u8 0, .int .u8 0, .int .u8 0, .int .u8 0, .int .u8 0, .int .u8 0, .int .u8 0, .int .u8 0], none, 1)), (150, ([.int .u8 0, .int .u8 0, .int .u8 0, .int .u8 0, .int .u8 0, .int .u8 0, .int .u8 0, .int .u8 0, .int .u8 0, .int .u8 0, .int .u8 0, .int .u8 0, .int .u8 0, .int .u8 0, .int .u8 0, .int .u8 0, .int .u8 0, .int .u8 0, .int .u8 0, .int .u8 0, .int .u8 0, .int .u8 0, .int .u8 0, .int .u8 0, .int .u8 0, .int .u8 0, .int .u8 0, .int .u8 0, .int .u8 0, .int .u8 0, .int .u8 0, .int .u8 0, .int .u8 0, .int .u8 0, .int .u8 0, .int .u8 0, .int .u8 0, .int .u8 0, .int .u8 0, .int .u8 0, .int .u8 0, .int .u8 0, .int .u8 0, .int .u8 0, .int .u8 0, .int .u8 0, .int .u8 0, .int .u8 0, .int .u8 0, .int .u8 0, .int .u8 0, .int .u8 0, .int .u8 0, .int .u8 0, .int .u8 0, .int .u8 0, .int .u8 0, .int .u8 0, .int .u8 0, .int .u8 0, .int .u8 0, .int .u8 0, .int .u8 0, .int .u8 0], none, 1))]⟩
theorem T0ok : TabOk Tryd.prog T0 :=
  ⟨(allC (by kernel_rfl) (allC (by kernel_rfl) (allC (by kernel_rfl) (allC (by kernel_rfl) (allC (by kernel_rfl) (allC (by kernel_rfl) (allC (by kernel_rfl) (allC (by kernel_rfl) (allC (by kernel_rfl) (allC (by kernel_rfl) (allC (by kernel_rfl) (allC (by kernel_rfl) (allC (by kernel_rfl) (allC (by kernel_rfl) (allC (by kernel_rfl) (allC (by kernel_rfl) (allC (by kernel_rfl) (allC (by kernel_rfl) (allC (by kernel_rfl) (allC (by kernel_rfl) (allC (by kernel_rfl) (allC (by kernel_rfl) (allC (by kernel_rfl) (allC (by kernel_rfl) (allC (by kernel_rfl) (allC (by kernel_rfl) (allC (by kernel_rfl) (allC (by kernel_rfl) (allC (by kernel_rfl) (allC (by kernel_rfl) (allC (by kernel_rfl) (allC (by kernel_rfl) (allC (by kernel_rfl) (allC (by kernel_rfl) (allC (by kernel_rfl) (allC (by kernel_rfl) (allC (by kernel_rfl) (allC (by kernel_rfl) (allC (by kernel_rfl) (allC (by kernel_rfl) (allC (by kernel_rfl) (allC (by kernel_rfl) (allC (by kernel_rfl) (allC (by kernel_rfl) (allC (by kernel_rfl) (allC (by kernel_rfl) (allC (by kernel_rfl) (allC (by kernel_rfl) (allC (by kernel_rfl) allN))))))))))))))))))))))))))))))))))))))))))))))))),
   (allC ⟨by kernel_rfl, by decide⟩ (allC ⟨by kernel_rfl, by decide⟩ (allC ⟨by kernel_rfl, by decide⟩ (allC ⟨by kernel_rfl, by decide⟩ (allC ⟨by kernel_rfl, by decide⟩ (allC ⟨by kernel_rfl, by decide⟩ (allC ⟨by kernel_rfl, by decide⟩ (allC ⟨by kernel_rfl, by decide⟩ (allC ⟨by kernel_rfl, by decide⟩ (allC ⟨by kernel_rfl, by decide⟩ (allC ⟨by kernel_rfl, by decide⟩ (allC ⟨by kernel_rfl, by decide⟩ (allC ⟨by kernel_rfl, by decide⟩ (allC ⟨by kernel_rfl, by decide⟩ (allC ⟨by kernel_rfl, by decide⟩ (allC ⟨by kernel_rfl, by decide⟩ (allC ⟨by kernel_rfl, by decide⟩ (allC ⟨by kernel_rfl, by decide⟩ (allC ⟨by kernel_rfl, by decide⟩ (allC ⟨by kernel_rfl, by decide⟩ (allC ⟨by kernel_rfl, by decide⟩ (allC ⟨by kernel_rfl, by decide⟩ (allC ⟨by kernel_rfl, by decide⟩ (allC ⟨by kernel_rfl, by decide⟩ (allC ⟨by kernel_rfl, by decide⟩ (allC ⟨by kernel_rfl, by decide⟩ (allC ⟨by kernel_rfl, by decide⟩ (allC ⟨by kernel_rfl, by decide⟩ (allC ⟨by kernel_rfl, by decide⟩ (allC ⟨by kernel_rfl, by decide⟩ (allC ⟨by kernel_rfl, by decide⟩ (allC ⟨by kernel_rfl, by decide⟩ (allC ⟨by kernel_rfl, by decide⟩ (allC ⟨by kernel_rfl, by decide⟩ (allC ⟨by kernel_rfl, by decide⟩ (allC ⟨by kernel_rfl, by decide⟩ (allC ⟨by kernel_rfl, by decide⟩ (allC ⟨by kernel_rfl, by decide⟩ (allC ⟨by kernel_rfl, by decide⟩ (allC ⟨by kernel_rfl, by decide⟩ (allC ⟨by kernel_rfl, by decide⟩ (allC ⟨by kernel_rfl, by decide⟩ (allC ⟨by kernel_rfl, by decide⟩ (allC ⟨by kernel_rfl, by decide⟩ (allC ⟨by kernel_rfl, by decide⟩ (allC ⟨by kernel_rfl, by decide⟩ (allC ⟨by kernel_rfl, by decide⟩ (allC ⟨by kernel_rfl, by decide⟩ (allC ⟨by kernel_rfl, by decide⟩ (allC ⟨by kernel_rfl, by decide⟩ allN)))))))))))))))))))))))))))))))))))))))))))))))))),
   (allC ⟨by kernel_rfl, by decide⟩ (allC ⟨by kernel_rfl, by decide⟩ (allC ⟨by kernel_rfl, by decide⟩ (allC ⟨by kernel_rfl, by decide⟩ (allC ⟨by kernel_rfl, by decide⟩ (allC ⟨by kernel_rfl, by decide⟩ (allC ⟨by kernel_rfl, by decide⟩ (allC ⟨by kernel_rfl, by decide⟩ (allC ⟨by kernel_rfl, by decide⟩ (allC ⟨by kernel_rfl, by decide⟩ (allC ⟨by kernel_rfl, by decide⟩ (allC ⟨by kernel_rfl, by decide⟩ (allC ⟨by kernel_rfl, by decide⟩ allN))))))))))))),
   (allC ⟨by kernel_rfl, rfl⟩ (allC ⟨by kernel_rfl, rfl⟩ (allC ⟨by kernel_rfl, rfl⟩ (allC ⟨by kernel_rfl, rfl⟩ (allC ⟨by kernel_rfl, rfl⟩ (allC ⟨by kernel_rfl, rfl⟩ (allC ⟨by kernel_rfl, rfl⟩ (allC ⟨by kernel_rfl, rfl⟩ (allC ⟨by kernel_rfl, rfl⟩ (allC ⟨by kernel_rfl, rfl⟩ (allC ⟨by kernel_rfl, rfl⟩ (allC ⟨by kernel_rfl, rfl⟩ (allC ⟨by kernel_rfl, rfl⟩ (allC ⟨by kernel_rfl, rfl⟩ (allC ⟨by kernel_rfl, rfl⟩ (allC ⟨by kernel_rfl, rfl⟩ (allC ⟨by kernel_rfl, rfl⟩ (allC ⟨by kernel_rfl, rfl⟩ (allC ⟨by kernel_rfl, rfl⟩ (allC ⟨by kernel_rfl, rfl⟩ (allC ⟨by kernel_rfl, rfl⟩ (allC ⟨by kernel_rfl, rfl⟩ (allC ⟨by kernel_rfl, rfl⟩ (allC ⟨by kernel_rfl, rfl⟩ (allC ⟨by kernel_rfl, rfl⟩ (allC ⟨by kernel_rfl, rfl⟩ (allC ⟨by kernel_rfl, rfl⟩ (allC ⟨by kernel_rfl, rfl⟩ (allC ⟨by kernel_rfl, rfl⟩ (allC ⟨by kernel_rfl, rfl⟩ (allC ⟨by kernel_rfl, rfl⟩ (allC ⟨by kernel_rfl, rfl⟩ (allC ⟨by kernel_rfl, rfl⟩ (allC ⟨by kernel_rfl, rfl⟩ (allC ⟨by kernel_rfl, rfl⟩ (allC ⟨by kernel_rfl, rfl⟩ (allC ⟨by kernel_rfl, rfl⟩ (allC ⟨by kernel_rfl, rfl⟩ (allC ⟨by kernel_rfl, rfl⟩ (allC ⟨by kernel_rfl, rfl⟩ (allC ⟨by kernel_rfl, rfl⟩ (allC ⟨by kernel_rfl, rfl⟩ (allC ⟨by kernel_rfl, rfl⟩ (allC ⟨by kernel_rfl, rfl⟩ (allC ⟨by kernel_rfl, rfl⟩ (allC ⟨by kernel_rfl, rfl⟩ (allC ⟨by kernel_rfl, rfl⟩ (allC ⟨by kernel_rfl, rfl⟩ (allC ⟨by kernel_rfl, rfl⟩ allN))))))))))))))))))))))))))))))))))))))))))))))))),
   (allC ⟨by kernel_rfl, rfl⟩ (allC ⟨by kernel_rfl, rfl⟩ (allC ⟨by kernel_rfl, rfl⟩ (allC ⟨by kernel_rfl, rfl⟩ (allC ⟨by kernel_rfl, rfl⟩ (allC ⟨by kernel_rfl, rfl⟩ (allC ⟨by kernel_rfl, rfl⟩ (allC ⟨by kernel_rfl, rfl⟩ (allC ⟨by kernel_rfl, rfl⟩ (allC ⟨by kernel_rfl, rfl⟩ (allC ⟨by kernel_rfl, rfl⟩ (allC ⟨by kernel_rfl, rfl⟩ (allC ⟨by kernel_rfl, rfl⟩ (allC ⟨by kernel_rfl, rfl⟩ (allC ⟨by kernel_rfl, rfl⟩ (allC ⟨by kernel_rfl, rfl⟩ (allC ⟨by kernel_rfl, rfl⟩ (allC ⟨by kernel_rfl, rfl⟩ (allC ⟨by kernel_rfl, rfl⟩ (allC ⟨by kernel_rfl, rfl⟩ (allC ⟨by kernel_rfl, rfl⟩ (allC ⟨by kernel_rfl, rfl⟩ (allC ⟨by kernel_rfl, rfl⟩ (allC ⟨by kernel_rfl, rfl⟩ (allC ⟨by kernel_rfl, rfl⟩ (allC ⟨by kernel_rfl, rfl⟩ (allC ⟨by kernel_rfl, rfl⟩ allN)))))))))))))))))))))))))))⟩
theorem mixed : Tryd.prog.follows .mixedOrders = true := by kernel_rfl
end Go.Proofs.YtjhdfkifpmmefaaDoor

/- The beginnings: bounds, readers of drawn numbers. -/
namespace Go.Proofs.YtjhdfkifpmmefaaDoor
set_option linter.unusedVariables false
set_option linter.unusedSimpArgs false
set_option maxRecDepth 20000
open Go.RowKit
attribute [local irreducible] runA runX AW
theorem gq_ZA {H G : Prop} (k : H) (h : Hid H → G := by (intro hh; (first | (first | ((first | refine r_none ?_ | refine r_gt (by rfl) (by rfl) (by first | rfl | assumption | omega | (simp only [*, Bool.not_false, Bool.not_true]; first | done | fail) | (simp [*]; first | done | fail)) (by rfl) ?_ | refine r_gf (by rfl) (by rfl) (by first | rfl | assumption | omega | (simp only [*, Bool.not_false, Bool.not_true]; first | done | fail) | (simp [*]; first | done | fail)) (by rfl) ?_); (first | fail | ((first | (refine z_op (by rfl) ?_; first | refine z_ok ?_ ?_ | refine z_ex ?_ (by first | exact ft_raw rfl rfl | ((first | refine ft_rp rfl rfl rfl ?_ | refine ft_row rfl rfl rfl ?_ | refine ft_rpF rfl rfl rfl ?_ | refine ft_rowF rfl rfl rfl ?_ | refine up_row rfl rfl ?_ | refine up_rowF rfl rfl rfl ?_ | refine ct_0 rfl ?_ | refine ct_r rfl rfl ?_ | refine ct_c rfl rfl rfl ?_ | refine cu_all rfl ?_ | refine cu_to rfl ?_ | refine cu_from rfl ?_ | refine cu_p rfl ?_ | refine mk_0 Int rfl rfl ?_ | refine mk_c Int rfl rfl rfl ?_ | refine mk_c Bool rfl rfl rfl ?_); (first | omega | (simp only [List.length_append, List.length_replicate, List.length_cons, List.length_nil, List.length_set, List.length_take, List.length_drop, true_and]; omega))) | exact up_raw rfl | exact pk_t (by first | rfl | assumption | omega | (simp only [*, Bool.not_false, Bool.not_true]; first | done | fail) | (simp [*]; first | done | fail)) rfl | exact pk_f (by first | rfl | assumption | omega | (simp only [*, Bool.not_false, Bool.not_true]; first | done | fail) | (simp [*]; first | done | fail)) rfl | exact rw_c Int rfl | exact rw_c Bool rfl | exact rw_raw | exact pu_cv (fun w => rfl) (by omega) | exact pu_of (fun w => rfl) rfl | exact be_of (fun w => rfl) | exact nc_of (fun _ _ _ _ => rfl) rfl | exact bu_of (fun w => rfl) rfl | fail) ?_) | ((first | refine q_callE wsT wsZ (by rfl) ?_ | refine q_callVE wsT (by rfl) (by rfl) ?_); refine ⟨_, _, _, (by first | exact k_within _ _ _ | exact k_l1In _ _ _ | exact k_okL _ | exact k_wv _ _ | assumption), _, by rfl, ?_, ?_⟩)); focus (first | exact trivial | fail | exact rfl | (first | omega | (simp only [List.length_append, List.length_replicate, List.length_cons, List.length_nil, List.length_set, List.length_take, List.length_drop, true_and]; omega)) | exact cvB (fun w => rfl) | ((repeat' (first | exact rfl | exact cV_len _ | exact cV_ln rfl (by omega) | exact Cel.pos | omega | exact trivial | refine And.intro ?_ ?_)); done) | (simp [*]; done) | (simp; omega))) | fail)) | refine r_nt (by rfl) (by rfl) (by first | rfl | assumption | omega | (simp only [*, Bool.not_false, Bool.not_true]; first | done | fail) | (simp [*]; first | done | fail)) (by rfl) ?_ | refine r_nf (by rfl) (by rfl) (by first | rfl | assumption | omega | (simp only [*, Bool.not_false, Bool.not_true]; first | done | fail) | (simp [*]; first | done | fail)) (by rfl) ?_ | refine r_gu (by rfl) (by rfl) (by rfl) ?_ | refine r_nil ?_) | (first | refine aw_seq ?_ | refine aw_ct (by rfl) (by first | rfl | assumption | omega | (simp only [*, Bool.not_false, Bool.not_true]; first | done | fail) | (simp [*]; first | done | fail)) ?_ | refine aw_cf (by rfl) (by first | rfl | assumption | omega | (simp only [*, Bool.not_false, Bool.not_true]; first | done | fail) | (simp [*]; first | done | fail)) ?_ | refine aw_block ?_ | refine aw_region T0ok cfU_ok (by rfl) ?_ | refine aw_skip ?_ | refine aw_exit ?_ | refine ra_step ?_)); (repeat (first | (first | ((first | refine r_none ?_ | refine r_gt (by rfl) (by rfl) (by first | rfl | assumption | omega | (simp only [*, Bool.not_false, Bool.not_true]; first | done | fail) | (simp [*]; first | done | fail)) (by rfl) ?_ | refine r_gf (by rfl) (by rfl) (by first | rfl | assumption | omega | (simp only [*, Bool.not_false, Bool.not_true]; first | done | fail) | (simp [*]; first | done | fail)) (by rfl) ?_); (first | fail | ((first | (refine z_op (by rfl) ?_; first | refine z_ok ?_ ?_ | refine z_ex ?_ (by first | exact ft_raw rfl rfl | ((first | refine ft_rp rfl rfl rfl ?_ | refine ft_row rfl rfl rfl ?_ | refine ft_rpF rfl rfl rfl ?_ | refine ft_rowF rfl rfl rfl ?_ | refine up_row rfl rfl ?_ | refine up_rowF rfl rfl rfl ?_ | refine ct_0 rfl ?_ | refine ct_r rfl rfl ?_ | refine ct_c rfl rfl rfl ?_ | refine cu_all rfl ?_ | refine cu_to rfl ?_ | refine cu_from rfl ?_ | refine cu_p rfl ?_ | refine mk_0 Int rfl rfl ?_ | refine mk_c Int rfl rfl rfl ?_ | refine mk_c Bool rfl rfl rfl ?_); (first | omega | (simp only [List.length_append, List.length_replicate, List.length_cons, List.length_nil, List.length_set, List.length_take, List.length_drop, true_and]; omega))) | exact up_raw rfl | exact pk_t (by first | rfl | assumption | omega | (simp only [*, Bool.not_false, Bool.not_true]; first | done | fail) | (simp [*]; first | done | fail)) rfl | exact pk_f (by first | rfl | assumption | omega | (simp only [*, Bool.not_false, Bool.not_true]; first | done | fail) | (simp [*]; first | done | fail)) rfl | exact rw_c Int rfl | exact rw_c Bool rfl | exact rw_raw | exact pu_cv (fun w => rfl) (by omega) | exact pu_of (fun w => rfl) rfl | exact be_of (fun w => rfl) | exact nc_of (fun _ _ _ _ => rfl) rfl | exact bu_of (fun w => rfl) rfl | fail) ?_) | ((first | refine q_callE wsT wsZ (by rfl) ?_ | refine q_callVE wsT (by rfl) (by rfl) ?_); refine ⟨_, _, _, (by first | exact k_within _ _ _ | exact k_l1In _ _ _ | exact k_okL _ | exact k_wv _ _ | assumption), _, by rfl, ?_, ?_⟩)); focus (first | exact trivial | fail | exact rfl | (first | omega | (simp only [List.length_append, List.length_replicate, List.length_cons, List.length_nil, List.length_set, List.length_take, List.length_drop, true_and]; omega)) | exact cvB (fun w => rfl) | ((repeat' (first | exact rfl | exact cV_len _ | exact cV_ln rfl (by omega) | exact Cel.pos | omega | exact trivial | refine And.intro ?_ ?_)); done) | (simp [*]; done) | (simp; omega))) | fail)) | refine r_nt (by rfl) (by rfl) (by first | rfl | assumption | omega | (simp only [*, Bool.not_false, Bool.not_true]; first | done | fail) | (simp [*]; first | done | fail)) (by rfl) ?_ | refine r_nf (by rfl) (by rfl) (by first | rfl | assumption | omega | (simp only [*, Bool.not_false, Bool.not_true]; first | done | fail) | (simp [*]; first | done | fail)) (by rfl) ?_ | refine r_gu (by rfl) (by rfl) (by rfl) ?_ | refine r_nil ?_) | (first | refine aw_seq ?_ | refine aw_ct (by rfl) (by first | rfl | assumption | omega | (simp only [*, Bool.not_false, Bool.not_true]; first | done | fail) | (simp [*]; first | done | fail)) ?_ | refine aw_cf (by rfl) (by first | rfl | assumption | omega | (simp only [*, Bool.not_false, Bool.not_true]; first | done | fail) | (simp [*]; first | done | fail)) ?_ | refine aw_block ?_ | refine aw_region T0ok cfU_ok (by rfl) ?_ | refine aw_skip ?_ | refine aw_exit ?_ | refine ra_step ?_))); exact hh.out)) : G := h ⟨k⟩
theorem ga_ZA {H G : Prop} (k : H) (h : Hid H → G := by (intro hh; (first | refine r_none ?_ | refine r_gt (by rfl) (by rfl) (by first | rfl | assumption | omega | (simp only [*, Bool.not_false, Bool.not_true]; first | done | fail) | (simp [*]; first | done | fail)) (by rfl) ?_ | refine r_gf (by rfl) (by rfl) (by first | rfl | assumption | omega | (simp only [*, Bool.not_false, Bool.not_true]; first | done | fail) | (simp [*]; first | done | fail)) (by rfl) ?_); refine z_op (by rfl) ?_; refine z_al ?_ hh.out; focus (first | exact trivial | fail | exact rfl | (first | omega | (simp only [List.length_append, List.length_replicate, List.length_cons, List.length_nil, List.length_set, List.length_take, List.length_drop, true_and]; omega)) | exact cvB (fun w => rfl) | ((repeat' (first | exact rfl | exact cV_len _ | exact cV_ln rfl (by omega) | exact Cel.pos | omega | exact trivial | refine And.intro ?_ ?_)); done) | (simp [*]; done) | (simp; omega)))) : G := h ⟨k⟩
def wsT : WsT := [

  (47, ([0], true)),


  (67, ([0], true)),


  (48, ([0], true)),



































  (39, ([], true)),


  (56, ([], true)),


  (76, ([], true)),










  (999999, ([], false))]
def wsZ : List (Nat × Nat) := [

  (31, 1),


  (23, 1),


  (53, 1),








  (25, 1),








































  (999999, 0)]
def btw (n a b : Int) : Bool := decide (n ≥ a) && decide (n ≤ b)
theorem btw_t {n a b : Int} (h : btw n a b = true) : a ≤ n ∧ n ≤ b := by simpa [btw] using h
theorem k_within (n a b : Int) : Kon Tryd.prog 40 [vI n, vI a, vI b] [] (vB (btw n a b)) [] [] := by
  (refine kon_mk T0ok (fn := Tryd.f40) (c := Tryd.f40.body.get rfl) Tryd.func40 rfl (by rfl) (by rfl) (by rfl) ?_; intro hfit hfe)
  unfold btw
  cases h1 : decide (n ≥ a)
  all_goals ((repeat (first | refine gq_ZA ?_ | (refine ga_ZA ?_; intro _q ⟨_he, _hq⟩))); ((try refine aw_ret ?_); refine ret_auto2 (by rfl) (by rfl) (by rfl) (by repeat (first | exact trivial | refine ⟨by first | rfl | omega, ?_⟩)) ?_ (by repeat (first | exact trivial | refine ⟨by rfl, by rfl, ?_⟩)) (by repeat (first | exact trivial | refine ⟨by rfl, by rfl, ?_⟩)); try rfl))

theorem k_l1In (n a b : Int) : Kon Tryd.prog 62 [vI n, vI a, vI b] [] (vB (btw n a b)) [] [] := by
  (refine kon_mk T0ok (fn := Tryd.f62) (c := Tryd.f62.body.get rfl) Tryd.func62 rfl (by rfl) (by rfl) (by rfl) ?_; intro hfit hfe)
  unfold btw
  cases h1 : decide (n ≥ a)
  all_goals ((repeat (first | refine gq_ZA ?_ | (refine ga_ZA ?_; intro _q ⟨_he, _hq⟩))); ((try refine aw_ret ?_); refine ret_auto2 (by rfl) (by rfl) (by rfl) (by repeat (first | exact trivial | refine ⟨by first | rfl | omega, ?_⟩)) ?_ (by repeat (first | exact trivial | refine ⟨by rfl, by rfl, ?_⟩)) (by repeat (first | exact trivial | refine ⟨by rfl, by rfl, ?_⟩)); try rfl))


theorem k_okL (n : Int) : Kon Tryd.prog 68 [vI n] [] (vB (btw n 1 8)) [] [] := by
  (refine kon_mk T0ok (fn := Tryd.f68) (c := Tryd.f68.body.get rfl) Tryd.func68 rfl (by rfl) (by rfl) (by rfl) ?_; intro hfit hfe)
  (repeat (first | refine gq_ZA ?_ | (refine ga_ZA ?_; intro _q ⟨_he, _hq⟩)))
  ((try refine aw_ret ?_); refine ret_auto2 (by rfl) (by rfl) (by rfl) (by repeat (first | exact trivial | refine ⟨by first | rfl | omega, ?_⟩)) ?_ (by repeat (first | exact trivial | refine ⟨by rfl, by rfl, ?_⟩)) (by repeat (first | exact trivial | refine ⟨by rfl, by rfl, ?_⟩)); try rfl)


abbrev rdE (l : List UInt8) (c : Int) : Ent := .box [roC l, .v (.int .i64 c)]
abbrev p0 : AV := .g (.one (.ptr 100000 0 0))
def byI (l : List UInt8) (i : Int) : Int := (l.getD i.toNat 0).toNat
def pickW (l : List UInt8) (c : Int) : Int := byI l (c % l.length) * 131 + byI l ((c * 7 + 3) % l.length) * 1117 + c * 29 + c / l.length * 53
def pickI (l : List UInt8) (c n : Int) : Int :=
  if n < 1 ∨ l.length = 0 then 0 else if c < l.length then byI l c % n else (((pickW l c).toNat ^^^ (pickW l c / 64).toNat : Nat) : Int) % n
theorem pickI_lt {l : List UInt8} {c n : Int} (h : 1 ≤ n) : 0 ≤ pickI l c n ∧ pickI l c n < n := by
  unfold pickI
  split
  · omega
  · split <;> exact ⟨Int.emod_nonneg _ (by omega), Int.emod_lt_of_pos _ (by omega)⟩
theorem k_pick (l : List UInt8) (c n : Int) (h : 0 ≤ c ∧ c ≤ 1000000 ∧ l.length ≤ 2000) : Kon Tryd.prog 47 [p0, vI n] [rdE l c] (vI (pickI l c n)) [] [rdE l (c + 1)] := by
  (refine kon_mk T0ok (fn := Tryd.f47) (c := Tryd.f47.body.get rfl) Tryd.func47 rfl (by rfl) (by rfl) (by rfl) ?_; intro hfit hfe)
  have e1 : c + 1 - 1 = c := by omega
  unfold pickI
  cases h3 : decide (n < 1) with
  | true => rw [if_pos (.inl (of_decide_eq_true h3))]; (repeat (first | refine gq_ZA ?_ | (refine ga_ZA ?_; intro _q ⟨_he, _hq⟩))); ((try refine aw_ret ?_); refine ret_auto2 (by rfl) (by rfl) (by rfl) (by repeat (first | exact trivial | refine ⟨by first | rfl | omega, ?_⟩)) ?_ (by repeat (first | exact trivial | refine ⟨by rfl, by rfl, ?_⟩)) (by repeat (first | exact trivial | refine ⟨by rfl, by rfl, ?_⟩)); try rfl)
  | false =>
    have h3' := of_decide_eq_false h3
    cases h4 : ((l.length : Int) == 0) with
    | true => rw [if_pos (.inr (by simpa using h4))]; (repeat (first | refine gq_ZA ?_ | (refine ga_ZA ?_; intro _q ⟨_he, _hq⟩))); ((try refine aw_ret ?_); refine ret_auto2 (by rfl) (by rfl) (by rfl) (by repeat (first | exact trivial | refine ⟨by first | rfl | omega, ?_⟩)) ?_ (by repeat (first | exact trivial | refine ⟨by rfl, by rfl, ?_⟩)) (by repeat (first | exact trivial | refine ⟨by rfl, by rfl, ?_⟩)); try rfl)
    | false =>
      have h4' : ¬ l.length = 0 := by simpa using h4
      rw [if_neg (by omega)]
      cases h5 : decide (c + 1 - 1 < (l.length : Int)) with
      | true =>
        have h5' := of_decide_eq_true h5
        rw [if_pos (by omega)]
        (repeat (first | refine gq_ZA ?_ | (refine ga_ZA ?_; intro _q ⟨_he, _hq⟩)))
        (subst_vars; ((try refine aw_ret ?_); refine ret_auto2 (by rfl) (by rfl) (by rfl) (by repeat (first | exact trivial | refine ⟨by first | rfl | omega, ?_⟩)) ?_ (by repeat (first | exact trivial | refine ⟨by rfl, by rfl, ?_⟩)) (by repeat (first | exact trivial | refine ⟨by rfl, by rfl, ?_⟩)); try rfl))
        rw [e1]; rfl
      | false =>
        rw [if_neg (by simpa using h5)]
        (repeat (first | refine gq_ZA ?_ | (refine ga_ZA ?_; intro _q ⟨_he, _hq⟩)))
        (refine aw_draw mixed T0ok cfU_ok [] (by rfl) (by kernel_rfl) ?_)
        (repeat (first | refine gq_ZA ?_ | (refine ga_ZA ?_; intro _q ⟨_he, _hq⟩)))
        (subst_vars; ((try refine aw_ret ?_); refine ret_auto2 (by rfl) (by rfl) (by rfl) (by repeat (first | exact trivial | refine ⟨by first | rfl | omega, ?_⟩)) ?_ (by repeat (first | exact trivial | refine ⟨by rfl, by rfl, ?_⟩)) (by repeat (first | exact trivial | refine ⟨by rfl, by rfl, ?_⟩)); try rfl))
        rw [e1]; rfl
theorem k_odd (l : List UInt8) (c n : Int) (h : 0 ≤ c ∧ c ≤ 1000000 ∧ l.length ≤ 2000 ∧ 0 < n ∧ n ≤ 1000000) : Kon Tryd.prog 67 [p0, vI n] [rdE l c] (vB (pickI l c n == n - 1)) [] [rdE l (c + 1)] := by
  (refine kon_mk T0ok (fn := Tryd.f67) (c := Tryd.f67.body.get rfl) Tryd.func67 rfl (by rfl) (by rfl) (by rfl) ?_; intro hfit hfe)
  have hp := pickI_lt (l := l) (c := c) (n := n) (by omega)
  have h3 : decide (n > 0) = true := by simp; omega
  have hK := k_pick l c n ⟨h.1, h.2.1, h.2.2.1⟩
  (repeat (first | refine gq_ZA ?_ | (refine ga_ZA ?_; intro _q ⟨_he, _hq⟩)))
  ((try refine aw_ret ?_); refine ret_auto2 (by rfl) (by rfl) (by rfl) (by repeat (first | exact trivial | refine ⟨by first | rfl | omega, ?_⟩)) ?_ (by repeat (first | exact trivial | refine ⟨by rfl, by rfl, ?_⟩)) (by repeat (first | exact trivial | refine ⟨by rfl, by rfl, ?_⟩)); try rfl)
theorem k_open (l : List UInt8) (h : l.length ≤ 100000000) : Kon Tryd.prog 39 [roA l] [] (.g (.one (.ptr 0 0 0))) [rdE (l.take 2000) 0] [] := by
  (refine kon_mk T0ok (fn := Tryd.f39) (c := Tryd.f39.body.get rfl) Tryd.func39 rfl (by rfl) (by rfl) (by rfl) ?_; intro hfit hfe)
  cases h1 : decide ((l.length : Int) > 2000) with
  | true =>
    have h1' := of_decide_eq_true h1
    (repeat (first | refine gq_ZA ?_ | (refine ga_ZA ?_; intro _q ⟨_he, _hq⟩)))
    ((try refine aw_ret ?_); refine ret_auto2 (by rfl) (by rfl) (by rfl) (by repeat (first | exact trivial | refine ⟨by first | rfl | omega, ?_⟩)) ?_ (by repeat (first | exact trivial | refine ⟨by rfl, by rfl, ?_⟩)) (by repeat (first | exact trivial | refine ⟨by rfl, by rfl, ?_⟩)); try rfl)
  | false =>
    have e : l.take 2000 = l := List.take_of_length_le (by have := of_decide_eq_false h1; omega)
    rw [e]
    (repeat (first | refine gq_ZA ?_ | (refine ga_ZA ?_; intro _q ⟨_he, _hq⟩)))
    ((try refine aw_ret ?_); refine ret_auto2 (by rfl) (by rfl) (by rfl) (by repeat (first | exact trivial | refine ⟨by first | rfl | omega, ?_⟩)) ?_ (by repeat (first | exact trivial | refine ⟨by rfl, by rfl, ?_⟩)) (by repeat (first | exact trivial | refine ⟨by rfl, by rfl, ?_⟩)); try rfl)
/-- What is drawn. -/
theorem ex_pick (l : List UInt8) (c n : Int) (h : 0 ≤ c ∧ c ≤ 1000000 ∧ l.length ≤ 2000) : ∃ v : Int, (n < 1 → v = 0) ∧ (1 ≤ n → 0 ≤ v ∧ v < n) ∧ Kon Tryd.prog 47 [p0, vI n] [rdE l c] (vI v) [] [rdE l (c + 1)] :=
  ⟨pickI l c n, fun h => by unfold pickI; rw [if_pos (.inl h)], pickI_lt, k_pick l c n h⟩
theorem ex_odd (l : List UInt8) (c n : Int) (h : 0 ≤ c ∧ c ≤ 1000000 ∧ l.length ≤ 2000 ∧ 0 < n ∧ n ≤ 1000000) : ∃ v : Bool, Kon Tryd.prog 67 [p0, vI n] [rdE l c] (vB v) [] [rdE l (c + 1)] := ⟨_, k_odd l c n h⟩


def wvB (n w : Int) : Bool := btw n 1 8 && btw w 0 (2 ^ n.toNat - 1)
theorem k_wv (n w : Int) : Kon Tryd.prog 42 [vI n, vI w] [] (vB (wvB n w)) [] [] := by
  (refine kon_mk T0ok (fn := Tryd.f42) (c := Tryd.f42.body.get rfl) Tryd.func42 rfl (by rfl) (by rfl) (by rfl) ?_; intro hfit hfe)
  unfold wvB
  cases h1 : btw n 1 8 with
  | false => (repeat (first | refine gq_ZA ?_ | (refine ga_ZA ?_; intro _q ⟨_he, _hq⟩))); ((try refine aw_ret ?_); refine ret_auto2 (by rfl) (by rfl) (by rfl) (by repeat (first | exact trivial | refine ⟨by first | rfl | omega, ?_⟩)) ?_ (by repeat (first | exact trivial | refine ⟨by rfl, by rfl, ?_⟩)) (by repeat (first | exact trivial | refine ⟨by rfl, by rfl, ?_⟩)); try rfl)
  | true =>
    have h1' := btw_t h1
    (repeat (first | refine gq_ZA ?_ | (refine ga_ZA ?_; intro _q ⟨_he, _hq⟩)))
    (subst_vars; ((try refine aw_ret ?_); refine ret_auto2 (by rfl) (by rfl) (by rfl) (by repeat (first | exact trivial | refine ⟨by first | rfl | omega, ?_⟩)) ?_ (by repeat (first | exact trivial | refine ⟨by rfl, by rfl, ?_⟩)) (by repeat (first | exact trivial | refine ⟨by rfl, by rfl, ?_⟩)); try rfl))
    rw [Int.one_mul]; rfl


theorem k_alive : Kon Tryd.prog 15 [] [] (vB true) [] [] := by
  (refine kon_mk T0ok (fn := Tryd.f15) (c := Tryd.f15.body.get rfl) Tryd.func15 rfl (by rfl) (by rfl) (by rfl) ?_; intro hfit hfe)
  (repeat (first | refine gq_ZA ?_ | (refine ga_ZA ?_; intro _q ⟨_he, _hq⟩)))
  ((try refine aw_ret ?_); refine ret_auto2 (by rfl) (by rfl) (by rfl) (by repeat (first | exact trivial | refine ⟨by first | rfl | omega, ?_⟩)) ?_ (by repeat (first | exact trivial | refine ⟨by rfl, by rfl, ?_⟩)) (by repeat (first | exact trivial | refine ⟨by rfl, by rfl, ?_⟩)); try rfl)

end Go.Proofs.YtjhdfkifpmmefaaDoor

/- Texts cut and digits read, in the reference. -/
namespace Go.Proofs.YtjhdfkifpmmefaaDoor
set_option linter.unusedVariables false
set_option linter.unusedSimpArgs false
set_option maxRecDepth 20000
open Go.RowKit
attribute [local irreducible] runA runX AW
theorem gq_LI {H G : Prop} (k : H) (h : Hid H → G := by (intro hh; (first | (first | ((first | refine r_none ?_ | refine r_gt (by rfl) (by rfl) (by first | rfl | assumption | omega | (simp only [*, Bool.not_false, Bool.not_true]; first | done | fail) | (simp [*]; first | done | fail)) (by rfl) ?_ | refine r_gf (by rfl) (by rfl) (by first | rfl | assumption | omega | (simp only [*, Bool.not_false, Bool.not_true]; first | done | fail) | (simp [*]; first | done | fail)) (by rfl) ?_); (first | (first | refine r_slen (by rfl) Tryd.underlying9 (by rfl) ?_ | refine r_sidx (by rfl) (by rfl) Tryd.underlying9 (by omega) (by rfl) ?_ | refine r_spiece (by rfl) (by rfl) (by rfl) Tryd.underlying9 (.inr rfl) (.inr rfl) (by omega) (by rfl) ?_ | refine r_spiece (by rfl) (by rfl) (by rfl) Tryd.underlying9 (.inr rfl) (.inl ⟨rfl, rfl⟩) (by omega) (by rfl) ?_ | refine r_bsub (by rfl) (by rfl) (fun w => by rfl) (by omega) (by rfl) ?_ | refine r_b2i (by rfl) (fun w => by rfl) (by omega) (by rfl) ?_) | ((first | (refine z_op (by rfl) ?_; first | refine z_ok ?_ ?_ | refine z_ex ?_ (by first | exact ft_raw rfl rfl | ((first | refine ft_rp rfl rfl rfl ?_ | refine ft_row rfl rfl rfl ?_ | refine ft_rpF rfl rfl rfl ?_ | refine ft_rowF rfl rfl rfl ?_ | refine up_row rfl rfl ?_ | refine up_rowF rfl rfl rfl ?_ | refine ct_0 rfl ?_ | refine ct_r rfl rfl ?_ | refine ct_c rfl rfl rfl ?_ | refine cu_all rfl ?_ | refine cu_to rfl ?_ | refine cu_from rfl ?_ | refine cu_p rfl ?_ | fail); (first | omega | (simp only [List.length_append, List.length_replicate, List.length_cons, List.length_nil, List.length_set, List.length_take, List.length_drop, true_and]; omega))) | exact up_raw rfl | exact pk_t (by first | rfl | assumption | omega | (simp only [*, Bool.not_false, Bool.not_true]; first | done | fail) | (simp [*]; first | done | fail)) rfl | exact pk_f (by first | rfl | assumption | omega | (simp only [*, Bool.not_false, Bool.not_true]; first | done | fail) | (simp [*]; first | done | fail)) rfl | (first | exact rw_c (List UInt8) rfl) | exact rw_raw | exact pu_cv (fun w => rfl) (by omega) | exact pu_of (fun w => rfl) rfl | exact be_of (fun w => rfl) | exact nc_of (fun _ _ _ _ => rfl) rfl | exact bu_of (fun w => rfl) rfl | fail) ?_) | ((first | refine q_callE wsT wsZ (by rfl) ?_ | refine q_callVE wsT (by rfl) (by rfl) ?_); refine ⟨_, _, _, (by first | assumption | exact k_l1In _ _ _), _, by rfl, ?_, ?_⟩)); focus (first | exact trivial | fail | exact rfl | (first | omega | (simp only [List.length_append, List.length_replicate, List.length_cons, List.length_nil, List.length_set, List.length_take, List.length_drop, true_and]; omega)) | exact cvB (fun w => rfl) | ((repeat' (first | exact rfl | exact cV_len _ | exact cV_ln rfl (by omega) | exact Cel.pos | omega | exact trivial | refine And.intro ?_ ?_)); done) | (simp [*]; done) | (simp; omega))) | fail)) | refine r_nt (by rfl) (by rfl) (by first | rfl | assumption | omega | (simp only [*, Bool.not_false, Bool.not_true]; first | done | fail) | (simp [*]; first | done | fail)) (by rfl) ?_ | refine r_nf (by rfl) (by rfl) (by first | rfl | assumption | omega | (simp only [*, Bool.not_false, Bool.not_true]; first | done | fail) | (simp [*]; first | done | fail)) (by rfl) ?_ | refine r_gu (by rfl) (by rfl) (by rfl) ?_ | refine r_nil ?_) | (first | refine aw_seq ?_ | refine aw_ct (by rfl) (by first | rfl | assumption | omega | (simp only [*, Bool.not_false, Bool.not_true]; first | done | fail) | (simp [*]; first | done | fail)) ?_ | refine aw_cf (by rfl) (by first | rfl | assumption | omega | (simp only [*, Bool.not_false, Bool.not_true]; first | done | fail) | (simp [*]; first | done | fail)) ?_ | refine aw_block ?_ | refine aw_region T0ok cfU_ok (by rfl) ?_ | refine aw_skip ?_ | refine aw_exit ?_ | refine ra_step ?_)); (repeat (first | (first | ((first | refine r_none ?_ | refine r_gt (by rfl) (by rfl) (by first | rfl | assumption | omega | (simp only [*, Bool.not_false, Bool.not_true]; first | done | fail) | (simp [*]; first | done | fail)) (by rfl) ?_ | refine r_gf (by rfl) (by rfl) (by first | rfl | assumption | omega | (simp only [*, Bool.not_false, Bool.not_true]; first | done | fail) | (simp [*]; first | done | fail)) (by rfl) ?_); (first | (first | refine r_slen (by rfl) Tryd.underlying9 (by rfl) ?_ | refine r_sidx (by rfl) (by rfl) Tryd.underlying9 (by omega) (by rfl) ?_ | refine r_spiece (by rfl) (by rfl) (by rfl) Tryd.underlying9 (.inr rfl) (.inr rfl) (by omega) (by rfl) ?_ | refine r_spiece (by rfl) (by rfl) (by rfl) Tryd.underlying9 (.inr rfl) (.inl ⟨rfl, rfl⟩) (by omega) (by rfl) ?_ | refine r_bsub (by rfl) (by rfl) (fun w => by rfl) (by omega) (by rfl) ?_ | refine r_b2i (by rfl) (fun w => by rfl) (by omega) (by rfl) ?_) | ((first | (refine z_op (by rfl) ?_; first | refine z_ok ?_ ?_ | refine z_ex ?_ (by first | exact ft_raw rfl rfl | ((first | refine ft_rp rfl rfl rfl ?_ | refine ft_row rfl rfl rfl ?_ | refine ft_rpF rfl rfl rfl ?_ | refine ft_rowF rfl rfl rfl ?_ | refine up_row rfl rfl ?_ | refine up_rowF rfl rfl rfl ?_ | refine ct_0 rfl ?_ | refine ct_r rfl rfl ?_ | refine ct_c rfl rfl rfl ?_ | refine cu_all rfl ?_ | refine cu_to rfl ?_ | refine cu_from rfl ?_ | refine cu_p rfl ?_ | fail); (first | omega | (simp only [List.length_append, List.length_replicate, List.length_cons, List.length_nil, List.length_set, List.length_take, List.length_drop, true_and]; omega))) | exact up_raw rfl | exact pk_t (by first | rfl | assumption | omega | (simp only [*, Bool.not_false, Bool.not_true]; first | done | fail) | (simp [*]; first | done | fail)) rfl | exact pk_f (by first | rfl | assumption | omega | (simp only [*, Bool.not_false, Bool.not_true]; first | done | fail) | (simp [*]; first | done | fail)) rfl | (first | exact rw_c (List UInt8) rfl) | exact rw_raw | exact pu_cv (fun w => rfl) (by omega) | exact pu_of (fun w => rfl) rfl | exact be_of (fun w => rfl) | exact nc_of (fun _ _ _ _ => rfl) rfl | exact bu_of (fun w => rfl) rfl | fail) ?_) | ((first | refine q_callE wsT wsZ (by rfl) ?_ | refine q_callVE wsT (by rfl) (by rfl) ?_); refine ⟨_, _, _, (by first | assumption | exact k_l1In _ _ _), _, by rfl, ?_, ?_⟩)); focus (first | exact trivial | fail | exact rfl | (first | omega | (simp only [List.length_append, List.length_replicate, List.length_cons, List.length_nil, List.length_set, List.length_take, List.length_drop, true_and]; omega)) | exact cvB (fun w => rfl) | ((repeat' (first | exact rfl | exact cV_len _ | exact cV_ln rfl (by omega) | exact Cel.pos | omega | exact trivial | refine And.intro ?_ ?_)); done) | (simp [*]; done) | (simp; omega))) | fail)) | refine r_nt (by rfl) (by rfl) (by first | rfl | assumption | omega | (simp only [*, Bool.not_false, Bool.not_true]; first | done | fail) | (simp [*]; first | done | fail)) (by rfl) ?_ | refine r_nf (by rfl) (by rfl) (by first | rfl | assumption | omega | (simp only [*, Bool.not_false, Bool.not_true]; first | done | fail) | (simp [*]; first | done | fail)) (by rfl) ?_ | refine r_gu (by rfl) (by rfl) (by rfl) ?_ | refine r_nil ?_) | (first | refine aw_seq ?_ | refine aw_ct (by rfl) (by first | rfl | assumption | omega | (simp only [*, Bool.not_false, Bool.not_true]; first | done | fail) | (simp [*]; first | done | fail)) ?_ | refine aw_cf (by rfl) (by first | rfl | assumption | omega | (simp only [*, Bool.not_false, Bool.not_true]; first | done | fail) | (simp [*]; first | done | fail)) ?_ | refine aw_block ?_ | refine aw_region T0ok cfU_ok (by rfl) ?_ | refine aw_skip ?_ | refine aw_exit ?_ | refine ra_step ?_))); exact hh.out)) : G := h ⟨k⟩
theorem ga_LI {H G : Prop} (k : H) (h : Hid H → G := by (intro hh; (first | refine r_none ?_ | refine r_gt (by rfl) (by rfl) (by first | rfl | assumption | omega | (simp only [*, Bool.not_false, Bool.not_true]; first | done | fail) | (simp [*]; first | done | fail)) (by rfl) ?_ | refine r_gf (by rfl) (by rfl) (by first | rfl | assumption | omega | (simp only [*, Bool.not_false, Bool.not_true]; first | done | fail) | (simp [*]; first | done | fail)) (by rfl) ?_); refine z_op (by rfl) ?_; refine z_alV ?_ hh.out; focus (first | exact trivial | fail | exact rfl | (first | omega | (simp only [List.length_append, List.length_replicate, List.length_cons, List.length_nil, List.length_set, List.length_take, List.length_drop, true_and]; omega)) | exact cvB (fun w => rfl) | ((repeat' (first | exact rfl | exact cV_len _ | exact cV_ln rfl (by omega) | exact Cel.pos | omega | exact trivial | refine And.intro ?_ ?_)); done) | (simp [*]; done) | (simp; omega)))) : G := h ⟨k⟩
abbrev sRow (l : List (List UInt8)) : Ent := rwE 9 l
abbrev vU (n : Int) : AV := .g (.one (.v (.int .u8 n)))
theorem take_snoc {s : List UInt8} {f k : Nat} (hf : f ≤ k) (hk : k < s.length) : (s.drop f).take (k + 1 - f) = (s.drop f).take (k - f) ++ [s.getD k 0] := by
  have h1 : k - f < (s.drop f).length := by rw [List.length_drop]; omega
  rw [show k + 1 - f = k - f + 1 by omega, List.take_add_one, List.getElem?_drop, show f + (k - f) = k by omega]
  simp [List.getD_eq_getElem?_getD, hk]
theorem drop_cons {s : List UInt8} {k : Nat} (hk : k < s.length) : s.drop k = s.getD k 0 :: s.drop (k + 1) := by
  rw [List.drop_eq_getElem_cons hk]
  simp [List.getD_eq_getElem?_getD, hk]
theorem u8_eq (b : UInt8) : ((b.toNat : Int) == 32) = (b == 32) := by
  rw [Bool.eq_iff_iff, beq_iff_eq, beq_iff_eq]
  constructor
  · intro h; exact UInt8.toNat_inj.1 (by have : (32 : UInt8).toNat = 32 := rfl; omega)
  · rintro rfl; rfl
set_option maxHeartbeats 2000000 in
theorem k_cut (s : List UInt8) (hs : s.length ≤ 7000000) : Kon Tryd.prog 45 [vS s, vU 32] [] (slA 0 0 (cutA 32 [] s)) [sRow (cutA 32 [] s)] [] := by
  (refine kon_mk T0ok (fn := Tryd.f45) (c := Tryd.f45.body.get rfl) Tryd.func45 rfl (by rfl) (by rfl) (by rfl) ?_; intro hfit hfe)
  (repeat (first | refine gq_LI ?_ | (refine ga_LI ?_; intro _hq)))
  (refine aw_rd [0, 1, 4] [] (fun g : Nat × Nat × Nat × List (List UInt8) => [(5, .g (.one (.sl 128 g.2.2.1 g.2.2.2.length))), (6, vI g.2.1), (7, vI g.1)]) (fun g => [(128, (g.2.2.1, sRow g.2.2.2))]) (fun g => g.1 ≤ s.length ∧ g.2.1 ≤ g.1 ∧ g.2.2.2.length ≤ g.1 ∧ g.2.2.2 ++ cutA 32 ((s.drop g.2.1).take (g.1 - g.2.1)) (s.drop g.1) = cutA 32 [] s) (fun g => s.length - g.1) (0, 0, 0, []) (by rfl) (by rfl) ?_ (by rfl) (by repeat (first | exact trivial | refine ⟨by rfl, ?_⟩ | refine ⟨vI_of (by rfl) (by omega), ?_⟩)) (by repeat (first | exact trivial | refine ⟨by rfl, ?_⟩ | refine ⟨vI_of (by rfl) (by omega), ?_⟩)) ?_)
  · exact ⟨Nat.zero_le _, Nat.le_refl _, Nat.le_refl _, rfl⟩
  rintro ⟨k, f, u, o⟩ ⟨h1, h2, h3, hz⟩
  dsimp only at h1 h2 h3 hz ⊢
  rcases Nat.lt_or_ge k s.length with h5 | h5
  · have hd : decide ((k : Int) < (s.length : Int)) = true := decide_eq_true (by omega)
    have hq := u8_eq (s.getD (k : Int).toNat 0)
    rw [drop_cons h5, cutA] at hz
    cases hb : (s.getD k 0 == 32) with
    | true =>
      rw [hb, if_pos rfl] at hz
      rw [show s.getD (k : Int).toNat 0 = s.getD k 0 from rfl, hb] at hq
      have hinv : k + 1 ≤ s.length ∧ k + 1 ≤ k + 1 ∧ (o ++ [(s.drop f).take (k - f)]).length ≤ k + 1 ∧ (o ++ [(s.drop f).take (k - f)]) ++ cutA 32 ((s.drop (k + 1)).take (k + 1 - (k + 1))) (s.drop (k + 1)) = cutA 32 [] s := by
        refine ⟨h5, Nat.le_refl _, by simp; omega, ?_⟩
        rw [Nat.sub_self, List.take_zero, List.append_assoc]; exact hz
      clear hz
      (repeat (first | refine gq_LI ?_ | (refine ga_LI ?_; intro _hq)))
      exact ⟨(k + 1, k + 1, u + 1, o ++ [(s.drop f).take (k - f)]), hinv, ⟨by rfl, (by repeat (first | exact trivial | refine ⟨by rfl, ?_⟩ | refine ⟨vI_of (by rfl) (by omega), ?_⟩)), (by repeat (first | exact trivial | refine ⟨by rfl, ?_⟩ | refine ⟨vI_of (by rfl) (by omega), ?_⟩))⟩, (by first | omega | (dsimp only; omega))⟩
    | false =>
      rw [hb, if_neg (by decide)] at hz
      rw [show s.getD (k : Int).toNat 0 = s.getD k 0 from rfl, hb] at hq
      have hinv : k + 1 ≤ s.length ∧ f ≤ k + 1 ∧ o.length ≤ k + 1 ∧ o ++ cutA 32 ((s.drop f).take (k + 1 - f)) (s.drop (k + 1)) = cutA 32 [] s := by
        refine ⟨h5, by omega, by omega, ?_⟩
        rw [take_snoc h2 h5]; exact hz
      clear hz
      (repeat (first | refine gq_LI ?_ | (refine ga_LI ?_; intro _hq)))
      exact ⟨(k + 1, f, u, o), hinv, ⟨by rfl, (by repeat (first | exact trivial | refine ⟨by rfl, ?_⟩ | refine ⟨vI_of (by rfl) (by omega), ?_⟩)), (by repeat (first | exact trivial | refine ⟨by rfl, ?_⟩ | refine ⟨vI_of (by rfl) (by omega), ?_⟩))⟩, (by first | omega | (dsimp only; omega))⟩
  · have hd : decide ((k : Int) < (s.length : Int)) = false := decide_eq_false (by omega)
    obtain rfl : k = s.length := by omega
    rw [List.drop_of_length_le (Nat.le_refl _), cutA] at hz
    rw [← hz]
    clear hz
    (repeat (first | refine gq_LI ?_ | (refine ga_LI ?_; intro _hq)))
    ((try refine aw_ret ?_); refine ret_auto2 (by rfl) (by rfl) (by rfl) (by repeat (first | exact trivial | refine ⟨by first | rfl | omega, ?_⟩)) ?_ (by repeat (first | exact trivial | refine ⟨by rfl, by rfl, ?_⟩)) (by repeat (first | exact trivial | refine ⟨by rfl, by rfl, ?_⟩)); try rfl)
theorem u8_lt (b : UInt8) : decide ((b.toNat : Int) < 48) = decide (b < 48) := by
  have h : (48 : UInt8).toNat = 48 := rfl
  by_cases hb : b < 48
  · rw [decide_eq_true hb]
    have := UInt8.lt_iff_toNat_lt.1 hb
    exact decide_eq_true (by omega)
  · rw [decide_eq_false hb]
    have : ¬ b.toNat < (48 : UInt8).toNat := fun h => hb (UInt8.lt_iff_toNat_lt.2 h)
    exact decide_eq_false (by omega)
theorem u8_gt (b : UInt8) : decide ((b.toNat : Int) > 57) = decide (b > 57) := by
  have h : (57 : UInt8).toNat = 57 := rfl
  by_cases hb : b > 57
  · rw [decide_eq_true hb]
    have := UInt8.lt_iff_toNat_lt.1 hb
    exact decide_eq_true (by omega)
  · rw [decide_eq_false hb]
    have : ¬ (57 : UInt8).toNat < b.toNat := fun h => hb (UInt8.lt_iff_toNat_lt.2 h)
    exact decide_eq_false (by omega)
theorem dgA_drop {s : List UInt8} {k : Nat} {m : Int} (hk : k < s.length) : dgA m (s.drop k) = if s.getD k 0 < 48 || s.getD k 0 > 57 then -1 else dgA (10 * m + (((s.getD k 0).toNat : Int) - 48)) (s.drop (k + 1)) := by
  rw [drop_cons hk, dgA]
theorem k_dig (s : List UInt8) : Kon Tryd.prog 46 [vS s] [] (vI (dgs s)) [] [] := by
  have hI := k_l1In (s.length : Int) 1 4
  cases hb : btw (s.length : Int) 1 4 with
  | false =>
    have e : dgs s = -1 := by
      have h1 : (decide (1 ≤ s.length) && decide (s.length ≤ 4)) = false := by
        rw [← hb]; unfold btw
        rw [Bool.eq_iff_iff]; simp; omega
      unfold dgs; rw [h1]; rfl
    rw [e]
    rw [hb] at hI
    (refine kon_mk T0ok (fn := Tryd.f46) (c := Tryd.f46.body.get rfl) Tryd.func46 rfl (by rfl) (by rfl) (by rfl) ?_; intro hfit hfe)
    (repeat (first | refine gq_LI ?_ | (refine ga_LI ?_; intro _hq)))
    ((try refine aw_ret ?_); refine ret_auto2 (by rfl) (by rfl) (by rfl) (by repeat (first | exact trivial | refine ⟨by first | rfl | omega, ?_⟩)) ?_ (by repeat (first | exact trivial | refine ⟨by rfl, by rfl, ?_⟩)) (by repeat (first | exact trivial | refine ⟨by rfl, by rfl, ?_⟩)); try rfl)
  | true =>
    have hl := btw_t hb
    rw [hb] at hI
    have h1 : (decide (1 ≤ s.length) && decide (s.length ≤ 4)) = true := by
      rw [← hb]; unfold btw
      rw [Bool.eq_iff_iff]; simp; omega
    have e : dgs s = if (decide (1 < s.length) && s.getD 0 0 == 48) = true then -1 else dgA 0 s := by
      unfold dgs; rw [h1]; rfl
    rw [e]
    clear e hb h1
    rcases Nat.lt_or_ge 1 s.length with h2 | h2
    · have hg : decide ((s.length : Int) > 1) = true := decide_eq_true (by omega)
      rw [decide_eq_true h2, Bool.true_and]
      have hq : (((s.getD (0 : Int).toNat 0).toNat : Int) == 48) = (s.getD 0 0 == 48) := by
        rw [Bool.eq_iff_iff, beq_iff_eq, beq_iff_eq]
        constructor
        · intro h; exact UInt8.toNat_inj.1 (by have : (48 : UInt8).toNat = 48 := rfl; have h' : ((s.getD 0 0).toNat : Int) = 48 := h; omega)
        · intro h; show ((s.getD 0 0).toNat : Int) = 48; rw [h]; rfl
      cases hz : (s.getD 0 0 == 48) with
      | true =>
        rw [hz] at hq
        rw [if_pos rfl]
        (refine kon_mk T0ok (fn := Tryd.f46) (c := Tryd.f46.body.get rfl) Tryd.func46 rfl (by rfl) (by rfl) (by rfl) ?_; intro hfit hfe)
        (repeat (first | refine gq_LI ?_ | (refine ga_LI ?_; intro _hq)))
        ((try refine aw_ret ?_); refine ret_auto2 (by rfl) (by rfl) (by rfl) (by repeat (first | exact trivial | refine ⟨by first | rfl | omega, ?_⟩)) ?_ (by repeat (first | exact trivial | refine ⟨by rfl, by rfl, ?_⟩)) (by repeat (first | exact trivial | refine ⟨by rfl, by rfl, ?_⟩)); try rfl)
      | false =>
        rw [hz] at hq
        rw [if_neg (by decide)]
        (refine kon_mk T0ok (fn := Tryd.f46) (c := Tryd.f46.body.get rfl) Tryd.func46 rfl (by rfl) (by rfl) (by rfl) ?_; intro hfit hfe)
        (repeat (first | refine gq_LI ?_ | (refine ga_LI ?_; intro _hq)))
        (refine aw_rd [0, 2] [] (fun g : Nat × Int => [(3, vI g.2), (4, vI g.1)]) (fun _ => []) (fun g => g.1 ≤ s.length ∧ (0 ≤ g.2 ∧ g.2 < 10 ^ g.1) ∧ dgA g.2 (s.drop g.1) = dgA 0 s) (fun g => s.length - g.1) (0, 0) (by rfl) (by rfl) ?_ (by rfl) (by repeat (first | exact trivial | refine ⟨by rfl, ?_⟩ | refine ⟨vI_of (by rfl) (by omega), ?_⟩)) (by repeat (first | exact trivial | refine ⟨by rfl, ?_⟩ | refine ⟨vI_of (by rfl) (by omega), ?_⟩)) ?_)
        · exact ⟨Nat.zero_le _, ⟨Int.le_refl _, by decide⟩, rfl⟩
        rintro ⟨k, m⟩ ⟨h3, h4, hz3⟩
        dsimp only at h3 h4 hz3 ⊢
        rcases Nat.lt_or_ge k s.length with h5 | h5
        · have hd : decide ((k : Int) < (s.length : Int)) = true := decide_eq_true (by omega)
          have hp : (10 : Int) ^ (k + 1) = 10 ^ k * 10 := Int.pow_succ 10 k
          have hp3 : (10 : Int) ^ k ≤ 1000 := by
            have : k = 0 ∨ k = 1 ∨ k = 2 ∨ k = 3 := by omega
            rcases this with rfl | rfl | rfl | rfl <;> decide
          have hlo := u8_lt (s.getD (k : Int).toNat 0)
          have hhi := u8_gt (s.getD (k : Int).toNat 0)
          rw [dgA_drop h5] at hz3
          rw [show s.getD (k : Int).toNat 0 = s.getD k 0 from rfl] at hlo hhi
          have hle := (s.getD k 0).toNat_lt
          cases hx : decide (s.getD k 0 < 48) with
          | true =>
            rw [hx] at hlo hz3
            rw [Bool.true_or, if_pos rfl] at hz3
            rw [← hz3]
            clear hz3
            (repeat (first | refine gq_LI ?_ | (refine ga_LI ?_; intro _hq)))
            ((try refine aw_ret ?_); refine ret_auto2 (by rfl) (by rfl) (by rfl) (by repeat (first | exact trivial | refine ⟨by first | rfl | omega, ?_⟩)) ?_ (by repeat (first | exact trivial | refine ⟨by rfl, by rfl, ?_⟩)) (by repeat (first | exact trivial | refine ⟨by rfl, by rfl, ?_⟩)); try rfl)
          | false =>
            rw [hx] at hlo hz3
            rw [Bool.false_or] at hz3
            cases hy : decide (s.getD k 0 > 57) with
            | true =>
              rw [hy] at hhi hz3
              rw [if_pos rfl] at hz3
              rw [← hz3]
              clear hz3
              (repeat (first | refine gq_LI ?_ | (refine ga_LI ?_; intro _hq)))
              ((try refine aw_ret ?_); refine ret_auto2 (by rfl) (by rfl) (by rfl) (by repeat (first | exact trivial | refine ⟨by first | rfl | omega, ?_⟩)) ?_ (by repeat (first | exact trivial | refine ⟨by rfl, by rfl, ?_⟩)) (by repeat (first | exact trivial | refine ⟨by rfl, by rfl, ?_⟩)); try rfl)
            | false =>
              rw [hy] at hhi hz3
              rw [if_neg (by decide)] at hz3
              have g1 := of_decide_eq_false hlo
              have g2 := of_decide_eq_false hhi
              have g3 : ¬ ((s.getD (k : Int).toNat 0).toNat : Int) < 48 := g1
              have g4 : ¬ ((s.getD (k : Int).toNat 0).toNat : Int) > 57 := g2
              have hinv : k + 1 ≤ s.length ∧ (0 ≤ 10 * m + (((s.getD k 0).toNat : Int) - 48) ∧ 10 * m + (((s.getD k 0).toNat : Int) - 48) < 10 ^ (k + 1)) ∧ dgA (10 * m + (((s.getD k 0).toNat : Int) - 48)) (s.drop (k + 1)) = dgA 0 s := ⟨h5, ⟨by omega, by omega⟩, hz3⟩
              clear hz3
              (repeat (first | refine gq_LI ?_ | (refine ga_LI ?_; intro _hq)))
              exact ⟨(k + 1, 10 * m + (((s.getD k 0).toNat : Int) - 48)), hinv, ⟨by rfl, (by repeat (first | exact trivial | refine ⟨by rfl, ?_⟩ | refine ⟨vI_of (by rfl) (by omega), ?_⟩)), (by repeat (first | exact trivial | refine ⟨by rfl, ?_⟩ | refine ⟨vI_of (by rfl) (by omega), ?_⟩))⟩, (by first | omega | (dsimp only; omega))⟩
        · have hd : decide ((k : Int) < (s.length : Int)) = false := decide_eq_false (by omega)
          obtain rfl : k = s.length := by omega
          rw [List.drop_of_length_le (Nat.le_refl _), dgA] at hz3
          rw [← hz3]
          clear hz3
          (repeat (first | refine gq_LI ?_ | (refine ga_LI ?_; intro _hq)))
          ((try refine aw_ret ?_); refine ret_auto2 (by rfl) (by rfl) (by rfl) (by repeat (first | exact trivial | refine ⟨by first | rfl | omega, ?_⟩)) ?_ (by repeat (first | exact trivial | refine ⟨by rfl, by rfl, ?_⟩)) (by repeat (first | exact trivial | refine ⟨by rfl, by rfl, ?_⟩)); try rfl)
    · have hg : decide ((s.length : Int) > 1) = false := decide_eq_false (by omega)
      rw [decide_eq_false (by omega), Bool.false_and, if_neg (by decide)]
      (refine kon_mk T0ok (fn := Tryd.f46) (c := Tryd.f46.body.get rfl) Tryd.func46 rfl (by rfl) (by rfl) (by rfl) ?_; intro hfit hfe)
      (repeat (first | refine gq_LI ?_ | (refine ga_LI ?_; intro _hq)))
      (refine aw_rd [0, 2] [] (fun g : Nat × Int => [(3, vI g.2), (4, vI g.1)]) (fun _ => []) (fun g => g.1 ≤ s.length ∧ (0 ≤ g.2 ∧ g.2 < 10 ^ g.1) ∧ dgA g.2 (s.drop g.1) = dgA 0 s) (fun g => s.length - g.1) (0, 0) (by rfl) (by rfl) ?_ (by rfl) (by repeat (first | exact trivial | refine ⟨by rfl, ?_⟩ | refine ⟨vI_of (by rfl) (by omega), ?_⟩)) (by repeat (first | exact trivial | refine ⟨by rfl, ?_⟩ | refine ⟨vI_of (by rfl) (by omega), ?_⟩)) ?_)
      · exact ⟨Nat.zero_le _, ⟨Int.le_refl _, by decide⟩, rfl⟩
      rintro ⟨k, m⟩ ⟨h3, h4, hz3⟩
      dsimp only at h3 h4 hz3 ⊢
      rcases Nat.lt_or_ge k s.length with h5 | h5
      · have hd : decide ((k : Int) < (s.length : Int)) = true := decide_eq_true (by omega)
        have hp : (10 : Int) ^ (k + 1) = 10 ^ k * 10 := Int.pow_succ 10 k
        have hp3 : (10 : Int) ^ k ≤ 1000 := by
          have : k = 0 ∨ k = 1 ∨ k = 2 ∨ k = 3 := by omega
          rcases this with rfl | rfl | rfl | rfl <;> decide
        have hlo := u8_lt (s.getD (k : Int).toNat 0)
        have hhi := u8_gt (s.getD (k : Int).toNat 0)
        rw [dgA_drop h5] at hz3
        rw [show s.getD (k : Int).toNat 0 = s.getD k 0 from rfl] at hlo hhi
        have hle := (s.getD k 0).toNat_lt
        cases hx : decide (s.getD k 0 < 48) with
        | true =>
          rw [hx] at hlo hz3
          rw [Bool.true_or, if_pos rfl] at hz3
          rw [← hz3]
          clear hz3
          (repeat (first | refine gq_LI ?_ | (refine ga_LI ?_; intro _hq)))
          ((try refine aw_ret ?_); refine ret_auto2 (by rfl) (by rfl) (by rfl) (by repeat (first | exact trivial | refine ⟨by first | rfl | omega, ?_⟩)) ?_ (by repeat (first | exact trivial | refine ⟨by rfl, by rfl, ?_⟩)) (by repeat (first | exact trivial | refine ⟨by rfl, by rfl, ?_⟩)); try rfl)
        | false =>
          rw [hx] at hlo hz3
          rw [Bool.false_or] at hz3
          cases hy : decide (s.getD k 0 > 57) with
          | true =>
            rw [hy] at hhi hz3
            rw [if_pos rfl] at hz3
            rw [← hz3]
            clear hz3
            (repeat (first | refine gq_LI ?_ | (refine ga_LI ?_; intro _hq)))
            ((try refine aw_ret ?_); refine ret_auto2 (by rfl) (by rfl) (by rfl) (by repeat (first | exact trivial | refine ⟨by first | rfl | omega, ?_⟩)) ?_ (by repeat (first | exact trivial | refine ⟨by rfl, by rfl, ?_⟩)) (by repeat (first | exact trivial | refine ⟨by rfl, by rfl, ?_⟩)); try rfl)
          | false =>
            rw [hy] at hhi hz3
            rw [if_neg (by decide)] at hz3
            have g1 := of_decide_eq_false hlo
            have g2 := of_decide_eq_false hhi
            have g3 : ¬ ((s.getD (k : Int).toNat 0).toNat : Int) < 48 := g1
            have g4 : ¬ ((s.getD (k : Int).toNat 0).toNat : Int) > 57 := g2
            have hinv : k + 1 ≤ s.length ∧ (0 ≤ 10 * m + (((s.getD k 0).toNat : Int) - 48) ∧ 10 * m + (((s.getD k 0).toNat : Int) - 48) < 10 ^ (k + 1)) ∧ dgA (10 * m + (((s.getD k 0).toNat : Int) - 48)) (s.drop (k + 1)) = dgA 0 s := ⟨h5, ⟨by omega, by omega⟩, hz3⟩
            clear hz3
            (repeat (first | refine gq_LI ?_ | (refine ga_LI ?_; intro _hq)))
            exact ⟨(k + 1, 10 * m + (((s.getD k 0).toNat : Int) - 48)), hinv, ⟨by rfl, (by repeat (first | exact trivial | refine ⟨by rfl, ?_⟩ | refine ⟨vI_of (by rfl) (by omega), ?_⟩)), (by repeat (first | exact trivial | refine ⟨by rfl, ?_⟩ | refine ⟨vI_of (by rfl) (by omega), ?_⟩))⟩, (by first | omega | (dsimp only; omega))⟩
      · have hd : decide ((k : Int) < (s.length : Int)) = false := decide_eq_false (by omega)
        obtain rfl : k = s.length := by omega
        rw [List.drop_of_length_le (Nat.le_refl _), dgA] at hz3
        rw [← hz3]
        clear hz3
        (repeat (first | refine gq_LI ?_ | (refine ga_LI ?_; intro _hq)))
        ((try refine aw_ret ?_); refine ret_auto2 (by rfl) (by rfl) (by rfl) (by repeat (first | exact trivial | refine ⟨by first | rfl | omega, ?_⟩)) ?_ (by repeat (first | exact trivial | refine ⟨by rfl, by rfl, ?_⟩)) (by repeat (first | exact trivial | refine ⟨by rfl, by rfl, ?_⟩)); try rfl)
end Go.Proofs.YtjhdfkifpmmefaaDoor

/- Statements compared. -/
namespace Go.Proofs.YtjhdfkifpmmefaaDoor
set_option linter.unusedVariables false
set_option linter.unusedSimpArgs false
set_option maxRecDepth 20000
open Go.RowKit
def chk4 (ti : TypeId) : List Field → Bool
  | [f, f', f'', f3] => (f.name != "_") && (f.type == ti) && (f.offset == 0) && ((f'.name != "_") && (f'.type == ti) && (f'.offset == 1)) && ((f''.name != "_") && (f''.type == ti) && (f''.offset == 2)) && ((f3.name != "_") && (f3.type == ti) && (f3.offset == 3))
  | _ => false
theorem equal_line (k a b c k' a' b' c' : Int) (w : World) : (Op.equalIn 10000 25 (.agg #[.int .i64 k, .int .i64 a, .int .i64 b, .int .i64 c]) (.agg #[.int .i64 k', .int .i64 a', .int .i64 b', .int .i64 c'])).run Tryd.prog w = .ok (k == k' && (a == a' && (b == b' && c == c'))) w := by
  rw [run_equalIn_agg (ht := by kernel_rfl) (hp := by kernel_rfl)]
  have hc : chk4 3 (Tryd.prog.fieldsOf 25).toList = true := by kernel_rfl
  have hi : Tryd.prog.underlying 3 = some (.int .i64) := by kernel_rfl
  have hz : ∀ (xs : Array Value) (k : Nat) (v : Value) (w : World), xs[k]? = some v → (part 3 xs k).run Tryd.prog w = .ok v w := fun xs k v w h => run_part_plain w (by kernel_rfl) h
  have z0 := fun w => hz #[.int .i64 k, .int .i64 a, .int .i64 b, .int .i64 c] 0 _ w rfl
  have y0 := fun w => hz #[.int .i64 k', .int .i64 a', .int .i64 b', .int .i64 c'] 0 _ w rfl
  have z1 := fun w => hz #[.int .i64 k, .int .i64 a, .int .i64 b, .int .i64 c] 1 _ w rfl
  have y1 := fun w => hz #[.int .i64 k', .int .i64 a', .int .i64 b', .int .i64 c'] 1 _ w rfl
  have z2 := fun w => hz #[.int .i64 k, .int .i64 a, .int .i64 b, .int .i64 c] 2 _ w rfl
  have y2 := fun w => hz #[.int .i64 k', .int .i64 a', .int .i64 b', .int .i64 c'] 2 _ w rfl
  have z3 := fun w => hz #[.int .i64 k, .int .i64 a, .int .i64 b, .int .i64 c] 3 _ w rfl
  have y3 := fun w => hz #[.int .i64 k', .int .i64 a', .int .i64 b', .int .i64 c'] 3 _ w rfl
  have e : ∀ (x y : Int) w, (Op.equalIn 9999 3 (.int .i64 x) (.int .i64 y)).run Tryd.prog w = .ok (x == y) w := fun x y w => run_equalIn_int (P := Tryd.prog) w 9998 3 .i64 .i64 x y hi
  clear hz
  generalize (Tryd.prog.fieldsOf 25).toList = fs at hc ⊢
  unfold chk4 at hc
  split at hc
  · rename_i f f' f'' f3
    simp only [Bool.and_eq_true, bne_iff_ne, beq_iff_eq] at hc
    obtain ⟨⟨⟨⟨⟨h1, h2⟩, h3⟩, ⟨⟨h4, h5⟩, h6⟩⟩, ⟨⟨h7, h8⟩, h9⟩⟩, ⟨⟨g1, g2⟩, g3⟩⟩ := hc
    simp only [Op.eqFields, h1, h2, h3, h4, h5, h6, h7, h8, h9, g1, g2, g3, if_true, ne_eq, not_false_eq_true, Sem.run_bind, z0, y0, Result.andThen_ok]
    erw [e k k' w]
    cases (k == k')
    · rfl
    simp only [Result.andThen_ok, Bool.not_true, Bool.false_eq_true, if_false, Sem.run_bind, z1, y1]
    erw [e a a' w]
    cases (a == a')
    · rfl
    simp only [Result.andThen_ok, Bool.not_true, Bool.false_eq_true, if_false, Sem.run_bind, z2, y2]
    erw [e b b' w]
    cases (b == b')
    · rfl
    simp only [Result.andThen_ok, Bool.not_true, Bool.false_eq_true, if_false, Sem.run_bind, z3, y3]
    erw [e c c' w]
    cases (c == c') <;> rfl
  · cases hc
theorem eq_line (x y : Operand) (k a b c k' a' b' c' : Int) (w : World) : (do eqGuard .eql 25 x y (.agg #[.int .i64 k, .int .i64 a, .int .i64 b, .int .i64 c]) (.agg #[.int .i64 k', .int .i64 a', .int .i64 b', .int .i64 c']); binOp .eql 25 (.agg #[.int .i64 k, .int .i64 a, .int .i64 b, .int .i64 c]) (.agg #[.int .i64 k', .int .i64 a', .int .i64 b', .int .i64 c']) : Sem Value).run Tryd.prog w = .ok (.bool (k == k' && (a == a' && (b == b' && c == c')))) w := by
  rw [Sem.run_bind, run_eqGuard_agg (hm := by kernel_rfl)]
  simp only [Result.andThen_ok]
  rw [run_eql_struct, equal_line]; rfl
theorem neq_line (x y : Operand) (k a b c k' a' b' c' : Int) (w : World) : (do eqGuard .neq 25 x y (.agg #[.int .i64 k, .int .i64 a, .int .i64 b, .int .i64 c]) (.agg #[.int .i64 k', .int .i64 a', .int .i64 b', .int .i64 c']); binOp .neq 25 (.agg #[.int .i64 k, .int .i64 a, .int .i64 b, .int .i64 c]) (.agg #[.int .i64 k', .int .i64 a', .int .i64 b', .int .i64 c']) : Sem Value).run Tryd.prog w = .ok (.bool (!(k == k' && (a == a' && (b == b' && c == c'))))) w := by
  rw [Sem.run_bind, run_eqGuard_agg (hm := by kernel_rfl)]
  simp only [Result.andThen_ok]
  rw [run_neq_struct, equal_line]; rfl
end Go.Proofs.YtjhdfkifpmmefaaDoor

/- Contracts of Go's library at this program. -/
namespace Go.Proofs.YtjhdfkifpmmefaaDoor
set_option linter.unusedVariables false
open Go.Shelf Go.RowKit Go.Lib
def Tryd.lays156_ren : Go.Shelf.Ren := ⟨fun | 156 => 37 | 165 => 64 | 166 => 65 | 169 => 51 | 240 => 73 | 241 => 80 | 276 => 89 | 277 => 96 | n => n, fun | 31 => 53 | 9 => 9 | 3 => 3 | 4 => 4 | 0 => 0 | 20 => 20 | 72 => 79 | 76 => 66 | 70 => 77 | 37 => 28 | 75 => 65 | 127 => 98 | 164 => 112 | 5 => 5 | 80 => 81 | n => n, fun | n => n⟩
theorem Tryd.lays156 : Go.Proofs.Lays.n156 Tryd.prog Tryd.lays156_ren := {
  mixed := by kernel_rfl
  f156 := Tryd.func37.trans (congrArg some (by kernel_rfl))
  f165 := Tryd.func64.trans (congrArg some (by kernel_rfl))
  f166 := Tryd.func65.trans (congrArg some (by kernel_rfl))
  f169 := Tryd.func51.trans (congrArg some (by kernel_rfl))
  f240 := Tryd.func73.trans (congrArg some (by kernel_rfl))
  f241 := Tryd.func80.trans (congrArg some (by kernel_rfl))
  f276 := Tryd.func89.trans (congrArg some (by kernel_rfl))
  f277 := Tryd.func96.trans (congrArg some (by kernel_rfl))
  t0 := Tryd.underlying0
  a0 := Tryd.isAgg0
  z0 := Tryd.sizeOf0
  v0 := Tryd.zeroValue0
  t3 := Tryd.underlying3
  a3 := Tryd.isAgg3
  z3 := Tryd.sizeOf3
  v3 := Tryd.zeroValue3
  t4 := Tryd.underlying4
  a4 := Tryd.isAgg4
  z4 := Tryd.sizeOf4
  v4 := Tryd.zeroValue4
  t9 := Tryd.underlying9
  a9 := Tryd.isAgg9
  z9 := Tryd.sizeOf9
  v9 := Tryd.zeroValue9
  t20 := Tryd.underlying20
  a20 := Tryd.isAgg20
  z20 := Tryd.sizeOf20
  v20 := Tryd.zeroValue20
  t31 := Tryd.underlying53
  a31 := Tryd.isAgg53
  z31 := Tryd.sizeOf53
  v31 := Tryd.zeroValue53
  t37 := Tryd.underlying28
  a37 := Tryd.isAgg28
  z37 := Tryd.sizeOf28
  v37 := Tryd.zeroValue28
  t70 := Tryd.underlying77
  a70 := Tryd.isAgg77
  z70 := Tryd.sizeOf77
  v70 := Tryd.zeroValue77
  t72 := Tryd.underlying79
  a72 := Tryd.isAgg79
  z72 := Tryd.sizeOf79
  v72 := Tryd.zeroValue79
  t75 := Tryd.underlying65
  a75 := Tryd.isAgg65
  z75 := Tryd.sizeOf65
  v75 := Tryd.zeroValue65
  t76 := Tryd.underlying66
  a76 := Tryd.isAgg66
  z76 := Tryd.sizeOf66
  v76 := Tryd.zeroValue66
  t127 := Tryd.underlying98
  a127 := Tryd.isAgg98
  z127 := Tryd.sizeOf98
  v127 := Tryd.zeroValue98
  t164 := Tryd.underlying112
  a164 := Tryd.isAgg112
  z164 := Tryd.sizeOf112
  v164 := Tryd.zeroValue112 }
theorem Tryd.Builder_Extra_156 : Builder.Extra Tryd.prog Tryd.lays156_ren := {
  sizeBuilder := by kernel_rfl
  liesBuilder := by kernel_rfl
  t5 := Tryd.underlying5
  a5 := Tryd.isAgg5
  z5 := Tryd.sizeOf5
  v5 := Tryd.zeroValue5
  infoByte := by kernel_rfl
  cellsByte := by kernel_rfl
  sizeByte := by kernel_rfl
  neB5 := by decide }
theorem Tryd.strings_Join_none (a : Option Addr) (c : Nat) (sep : ByteArray) (w : World) :
    Calls Tryd.prog 37 #[.slice a 0 c, .string sep] w fun e w' => e = .returned (.string ⟨#[]⟩) ∧ w' = w := Any.strings_Join_none Tryd.lays156 Tryd.Builder_Extra_156 a c sep w
theorem Tryd.strings_Join (bk o c : Nat) (xs : List ByteArray) (sep : ByteArray) (w : World) (hcells : ∀ (j : Nat) x, xs[j]? = some x → w.cell? ⟨bk, o + j, none⟩ = some (.string x)) (hbk : bk < w.heap.size) (hN : xs.length ≤ 140737488355328) (hcap : xs.length ≤ c) (hlen : (Lib.join (xs.map (·.data.toList)) sep.data.toList).length ≤ 140737488355328) :
    Calls Tryd.prog 37 #[.slice (some ⟨bk, o, none⟩) xs.length c, .string sep] w fun e w' => e = .returned (.string ⟨(Lib.join (xs.map (·.data.toList)) sep.data.toList).toArray⟩) ∧ Below w.heap.size w w' := Any.strings_Join Tryd.lays156 Tryd.Builder_Extra_156 bk o c xs sep w hcells hbk hN hcap hlen
def Tryd.lays171_ren : Go.Shelf.Ren := ⟨fun | 171 => 36 | 243 => 63 | 246 => 79 | 283 => 92 | 284 => 93 | 285 => 94 | 286 => 95 | 129 => 105 | 317 => 104 | 318 => 106 | 319 => 107 | 320 => 108 | 337 => 116 | 338 => 117 | n => n, fun | 3 => 3 | 9 => 9 | 2 => 2 | 4 => 4 | 171 => 116 | 0 => 0 | 53 => 117 | 37 => 28 | 5 => 5 | 173 => 120 | 212 => 134 | 51 => 135 | 20 => 20 | 213 => 136 | 46 => 128 | 232 => 149 | 233 => 150 | n => n, fun | 17 => 2 | 18 => 6 | 19 => 7 | n => n⟩
theorem Tryd.lays171 : Go.Proofs.Lays.n171 Tryd.prog Tryd.lays171_ren := {
  mixed := by kernel_rfl
  f129 := Tryd.func105.trans (congrArg some (by kernel_rfl))
  f171 := Tryd.func36.trans (congrArg some (by kernel_rfl))
  f243 := Tryd.func63.trans (congrArg some (by kernel_rfl))
  f246 := Tryd.func79.trans (congrArg some (by kernel_rfl))
  f283 := Tryd.func92.trans (congrArg some (by kernel_rfl))
  f284 := Tryd.func93.trans (congrArg some (by kernel_rfl))
  f285 := Tryd.func94.trans (congrArg some (by kernel_rfl))
  f286 := Tryd.func95.trans (congrArg some (by kernel_rfl))
  f317 := Tryd.func104.trans (congrArg some (by kernel_rfl))
  f318 := Tryd.func106.trans (congrArg some (by kernel_rfl))
  f319 := Tryd.func107.trans (congrArg some (by kernel_rfl))
  f320 := Tryd.func108.trans (congrArg some (by kernel_rfl))
  f337 := Tryd.func116.trans (congrArg some (by kernel_rfl))
  f338 := Tryd.func117.trans (congrArg some (by kernel_rfl))
  t0 := Tryd.underlying0
  a0 := Tryd.isAgg0
  z0 := Tryd.sizeOf0
  v0 := Tryd.zeroValue0
  t2 := Tryd.underlying2
  a2 := Tryd.isAgg2
  z2 := Tryd.sizeOf2
  v2 := Tryd.zeroValue2
  t3 := Tryd.underlying3
  a3 := Tryd.isAgg3
  z3 := Tryd.sizeOf3
  v3 := Tryd.zeroValue3
  t4 := Tryd.underlying4
  a4 := Tryd.isAgg4
  z4 := Tryd.sizeOf4
  v4 := Tryd.zeroValue4
  t5 := Tryd.underlying5
  a5 := Tryd.isAgg5
  z5 := Tryd.sizeOf5
  v5 := Tryd.zeroValue5
  t9 := Tryd.underlying9
  a9 := Tryd.isAgg9
  z9 := Tryd.sizeOf9
  v9 := Tryd.zeroValue9
  t20 := Tryd.underlying20
  a20 := Tryd.isAgg20
  z20 := Tryd.sizeOf20
  v20 := Tryd.zeroValue20
  t37 := Tryd.underlying28
  a37 := Tryd.isAgg28
  z37 := Tryd.sizeOf28
  v37 := Tryd.zeroValue28
  t46 := Tryd.underlying128
  a46 := Tryd.isAgg128
  z46 := Tryd.sizeOf128
  v46 := Tryd.zeroValue128
  t51 := Tryd.underlying135
  a51 := Tryd.isAgg135
  z51 := Tryd.sizeOf135
  v51 := Tryd.zeroValue135
  t53 := Tryd.underlying117
  a53 := Tryd.isAgg117
  z53 := Tryd.sizeOf117
  v53 := Tryd.zeroValue117
  t171 := Tryd.underlying116
  a171 := Tryd.isAgg116
  z171 := Tryd.sizeOf116
  v171 := Tryd.zeroValue116
  t173 := Tryd.underlying120
  a173 := Tryd.isAgg120
  z173 := Tryd.sizeOf120
  v173 := Tryd.zeroValue120
  t212 := Tryd.underlying134
  a212 := Tryd.isAgg134
  z212 := Tryd.sizeOf134
  v212 := Tryd.zeroValue134
  t213 := Tryd.underlying136
  a213 := Tryd.isAgg136
  z213 := Tryd.sizeOf136
  t232 := Tryd.underlying149
  a232 := Tryd.isAgg149
  z232 := Tryd.sizeOf149
  v232 := Tryd.zeroValue149
  t233 := Tryd.underlying150
  a233 := Tryd.isAgg150
  z233 := Tryd.sizeOf150
  v233 := Tryd.zeroValue150
  g17 := by kernel_rfl
  g18 := by kernel_rfl
  g19 := by kernel_rfl }
theorem Tryd.strconv_Itoa_small (i : Nat) (hi : i < 100) (w : World) :
    Calls Tryd.prog 36 #[.int .i64 i] w fun e w' => e = .returned (.string ⟨(Lib.decDigits i).toArray⟩) ∧ w' = w := Any.strconv_Itoa_small Tryd.lays171 i hi w
end Go.Proofs.YtjhdfkifpmmefaaDoor

/- Statements: what is valid; numbers as texts; the text of a statement, both sides. -/
namespace Go.Proofs.YtjhdfkifpmmefaaDoor
set_option linter.unusedVariables false
set_option linter.unusedSimpArgs false
set_option maxRecDepth 20000
open Go.RowKit
attribute [local irreducible] runA runX AW
theorem gq_LA {H G : Prop} (k : H) (h : Hid H → G := by (intro hh; (first | (first | ((first | refine r_none ?_ | refine r_gt (by rfl) (by rfl) (by first | rfl | assumption | omega | (simp only [*, Bool.not_false, Bool.not_true]; first | done | fail) | (simp [*]; first | done | fail)) (by rfl) ?_ | refine r_gf (by rfl) (by rfl) (by first | rfl | assumption | omega | (simp only [*, Bool.not_false, Bool.not_true]; first | done | fail) | (simp [*]; first | done | fail)) (by rfl) ?_); (first | (first | refine r_seq (by rfl) (by rfl) (by rfl) ?_ | refine r_sne (by rfl) (by rfl) (by rfl) ?_ | refine r_sadd (by rfl) (by rfl) (by first | omega | (simp only [List.length_append, List.length_cons, List.length_nil]; omega)) (by rfl) ?_ | refine r_i2b (by rfl) (fun w => by rfl) (by omega) (by rfl) ?_ | refine r_bstr1 (by rfl) (by rfl) (by rfl) (by rfl) Tryd.underlying28 Tryd.underlying5 Tryd.underlying9 (by exact ⟨rfl, rfl, Nat.zero_lt_one, rfl⟩) (by rfl) ?_) | ((first | (refine z_op (by rfl) ?_; first | refine z_ok ?_ ?_ | refine z_ex ?_ (by first | exact ft_raw rfl rfl | ((first | refine ft_rp rfl rfl rfl ?_ | refine ft_row rfl rfl rfl ?_ | refine ft_rpF rfl rfl rfl ?_ | refine ft_rowF rfl rfl rfl ?_ | refine up_row rfl rfl ?_ | refine up_rowF rfl rfl rfl ?_ | refine ct_0 rfl ?_ | refine ct_r rfl rfl ?_ | refine ct_c rfl rfl rfl ?_ | refine cu_all rfl ?_ | refine cu_to rfl ?_ | refine cu_from rfl ?_ | refine cu_p rfl ?_ | refine mk_0 Int rfl rfl ?_); (first | omega | (simp only [List.length_append, List.length_replicate, List.length_cons, List.length_nil, List.length_set, List.length_take, List.length_drop, true_and]; omega))) | exact up_raw rfl | exact pk_t (by first | rfl | assumption | omega | (simp only [*, Bool.not_false, Bool.not_true]; first | done | fail) | (simp [*]; first | done | fail)) rfl | exact pk_f (by first | rfl | assumption | omega | (simp only [*, Bool.not_false, Bool.not_true]; first | done | fail) | (simp [*]; first | done | fail)) rfl | (first | exact rw_c UInt8 rfl | exact rw_c (List UInt8) rfl) | exact rw_raw | exact pu_cv (fun w => rfl) (by omega) | exact pu_of (fun w => rfl) rfl | exact be_of (fun w => rfl) | exact nc_of (fun _ _ _ _ => rfl) rfl | exact bu_of (fun w => rfl) rfl | (first | exact pu_of (fun w => eq_line _ _ _ _ _ _ _ _ _ _ w) rfl)) ?_) | ((first | refine q_callE wsT wsZ (by rfl) ?_ | refine q_callVE wsT (by rfl) (by rfl) ?_); refine ⟨_, _, _, (by first | assumption | exact k_within _ _ _ | exact k_l1In _ _ _), _, by rfl, ?_, ?_⟩)); focus (first | exact trivial | fail | exact rfl | (first | omega | (simp only [List.length_append, List.length_replicate, List.length_cons, List.length_nil, List.length_set, List.length_take, List.length_drop, true_and]; omega)) | exact cvB (fun w => rfl) | ((repeat' (first | exact rfl | exact cV_len _ | exact cV_ln rfl (by omega) | exact Cel.pos | omega | exact trivial | refine And.intro ?_ ?_)); done) | (simp [*]; done) | (simp; omega))) | fail)) | refine r_nt (by rfl) (by rfl) (by first | rfl | assumption | omega | (simp only [*, Bool.not_false, Bool.not_true]; first | done | fail) | (simp [*]; first | done | fail)) (by rfl) ?_ | refine r_nf (by rfl) (by rfl) (by first | rfl | assumption | omega | (simp only [*, Bool.not_false, Bool.not_true]; first | done | fail) | (simp [*]; first | done | fail)) (by rfl) ?_ | refine r_gu (by rfl) (by rfl) (by rfl) ?_ | refine r_nil ?_) | (first | refine aw_seq ?_ | refine aw_ct (by rfl) (by first | rfl | assumption | omega | (simp only [*, Bool.not_false, Bool.not_true]; first | done | fail) | (simp [*]; first | done | fail)) ?_ | refine aw_cf (by rfl) (by first | rfl | assumption | omega | (simp only [*, Bool.not_false, Bool.not_true]; first | done | fail) | (simp [*]; first | done | fail)) ?_ | refine aw_block ?_ | refine aw_region T0ok cfU_ok (by rfl) ?_ | refine aw_skip ?_ | refine aw_exit ?_ | refine ra_step ?_)); (repeat (first | (first | ((first | refine r_none ?_ | refine r_gt (by rfl) (by rfl) (by first | rfl | assumption | omega | (simp only [*, Bool.not_false, Bool.not_true]; first | done | fail) | (simp [*]; first | done | fail)) (by rfl) ?_ | refine r_gf (by rfl) (by rfl) (by first | rfl | assumption | omega | (simp only [*, Bool.not_false, Bool.not_true]; first | done | fail) | (simp [*]; first | done | fail)) (by rfl) ?_); (first | (first | refine r_seq (by rfl) (by rfl) (by rfl) ?_ | refine r_sne (by rfl) (by rfl) (by rfl) ?_ | refine r_sadd (by rfl) (by rfl) (by first | omega | (simp only [List.length_append, List.length_cons, List.length_nil]; omega)) (by rfl) ?_ | refine r_i2b (by rfl) (fun w => by rfl) (by omega) (by rfl) ?_ | refine r_bstr1 (by rfl) (by rfl) (by rfl) (by rfl) Tryd.underlying28 Tryd.underlying5 Tryd.underlying9 (by exact ⟨rfl, rfl, Nat.zero_lt_one, rfl⟩) (by rfl) ?_) | ((first | (refine z_op (by rfl) ?_; first | refine z_ok ?_ ?_ | refine z_ex ?_ (by first | exact ft_raw rfl rfl | ((first | refine ft_rp rfl rfl rfl ?_ | refine ft_row rfl rfl rfl ?_ | refine ft_rpF rfl rfl rfl ?_ | refine ft_rowF rfl rfl rfl ?_ | refine up_row rfl rfl ?_ | refine up_rowF rfl rfl rfl ?_ | refine ct_0 rfl ?_ | refine ct_r rfl rfl ?_ | refine ct_c rfl rfl rfl ?_ | refine cu_all rfl ?_ | refine cu_to rfl ?_ | refine cu_from rfl ?_ | refine cu_p rfl ?_ | refine mk_0 Int rfl rfl ?_); (first | omega | (simp only [List.length_append, List.length_replicate, List.length_cons, List.length_nil, List.length_set, List.length_take, List.length_drop, true_and]; omega))) | exact up_raw rfl | exact pk_t (by first | rfl | assumption | omega | (simp only [*, Bool.not_false, Bool.not_true]; first | done | fail) | (simp [*]; first | done | fail)) rfl | exact pk_f (by first | rfl | assumption | omega | (simp only [*, Bool.not_false, Bool.not_true]; first | done | fail) | (simp [*]; first | done | fail)) rfl | (first | exact rw_c UInt8 rfl | exact rw_c (List UInt8) rfl) | exact rw_raw | exact pu_cv (fun w => rfl) (by omega) | exact pu_of (fun w => rfl) rfl | exact be_of (fun w => rfl) | exact nc_of (fun _ _ _ _ => rfl) rfl | exact bu_of (fun w => rfl) rfl | (first | exact pu_of (fun w => eq_line _ _ _ _ _ _ _ _ _ _ w) rfl)) ?_) | ((first | refine q_callE wsT wsZ (by rfl) ?_ | refine q_callVE wsT (by rfl) (by rfl) ?_); refine ⟨_, _, _, (by first | assumption | exact k_within _ _ _ | exact k_l1In _ _ _), _, by rfl, ?_, ?_⟩)); focus (first | exact trivial | fail | exact rfl | (first | omega | (simp only [List.length_append, List.length_replicate, List.length_cons, List.length_nil, List.length_set, List.length_take, List.length_drop, true_and]; omega)) | exact cvB (fun w => rfl) | ((repeat' (first | exact rfl | exact cV_len _ | exact cV_ln rfl (by omega) | exact Cel.pos | omega | exact trivial | refine And.intro ?_ ?_)); done) | (simp [*]; done) | (simp; omega))) | fail)) | refine r_nt (by rfl) (by rfl) (by first | rfl | assumption | omega | (simp only [*, Bool.not_false, Bool.not_true]; first | done | fail) | (simp [*]; first | done | fail)) (by rfl) ?_ | refine r_nf (by rfl) (by rfl) (by first | rfl | assumption | omega | (simp only [*, Bool.not_false, Bool.not_true]; first | done | fail) | (simp [*]; first | done | fail)) (by rfl) ?_ | refine r_gu (by rfl) (by rfl) (by rfl) ?_ | refine r_nil ?_) | (first | refine aw_seq ?_ | refine aw_ct (by rfl) (by first | rfl | assumption | omega | (simp only [*, Bool.not_false, Bool.not_true]; first | done | fail) | (simp [*]; first | done | fail)) ?_ | refine aw_cf (by rfl) (by first | rfl | assumption | omega | (simp only [*, Bool.not_false, Bool.not_true]; first | done | fail) | (simp [*]; first | done | fail)) ?_ | refine aw_block ?_ | refine aw_region T0ok cfU_ok (by rfl) ?_ | refine aw_skip ?_ | refine aw_exit ?_ | refine ra_step ?_))); exact hh.out)) : G := h ⟨k⟩
theorem ga_LA {H G : Prop} (k : H) (h : Hid H → G := by (intro hh; (first | refine r_none ?_ | refine r_gt (by rfl) (by rfl) (by first | rfl | assumption | omega | (simp only [*, Bool.not_false, Bool.not_true]; first | done | fail) | (simp [*]; first | done | fail)) (by rfl) ?_ | refine r_gf (by rfl) (by rfl) (by first | rfl | assumption | omega | (simp only [*, Bool.not_false, Bool.not_true]; first | done | fail) | (simp [*]; first | done | fail)) (by rfl) ?_); refine z_op (by rfl) ?_; refine z_alV ?_ hh.out; focus (first | exact trivial | fail | exact rfl | (first | omega | (simp only [List.length_append, List.length_replicate, List.length_cons, List.length_nil, List.length_set, List.length_take, List.length_drop, true_and]; omega)) | exact cvB (fun w => rfl) | ((repeat' (first | exact rfl | exact cV_len _ | exact cV_ln rfl (by omega) | exact Cel.pos | omega | exact trivial | refine And.intro ?_ ?_)); done) | (simp [*]; done) | (simp; omega)))) : G := h ⟨k⟩
theorem gd_LA {H G : Prop} (k : H) (h : Hid H → G := by (intro hh; (refine aw_draw mixed T0ok cfU_ok [] (by rfl) (by kernel_rfl) ?_); exact hh.out)) : G := h ⟨k⟩
abbrev lCs (k v w n : Int) : List AC := [.v (.int .i64 k), .v (.int .i64 v), .v (.int .i64 w), .v (.int .i64 n)]
abbrev lV (k v w n : Int) : AV := .g (.agg (lCs k v w n))
open Go.Lib (decDigits) in
theorem k_num1 (n : Int) (h : 0 ≤ n ∧ n < 10) : Kon Tryd.prog 34 [vI n] [] (vS (decDigits n.toNat)) [] [] := by
  have hd1 : decide (n < 0) = false := decide_eq_false (by omega)
  have hd2 : decide (n < 10) = true := decide_eq_true (by omega)
  have e : decDigits n.toNat = [UInt8.ofNat (48 + n).toNat] := by
    rw [Go.Lib.decDigits_one (by omega)]
    congr 2; omega
  rw [e]
  (refine kon_mk T0ok (fn := Tryd.f34) (c := Tryd.f34.body.get rfl) Tryd.func34 rfl (by rfl) (by rfl) (by rfl) ?_; intro hfit hfe)
  (repeat (first | refine gq_LA ?_ | (refine ga_LA ?_; intro _hq)))
  ((try refine aw_ret ?_); refine ret_auto2 (by rfl) (by rfl) (by rfl) (by repeat (first | exact trivial | refine ⟨by first | rfl | omega, ?_⟩)) ?_ (by repeat (first | exact trivial | refine ⟨by rfl, by rfl, ?_⟩)) (by repeat (first | exact trivial | refine ⟨by rfl, by rfl, ?_⟩)); try rfl)
open Go.Lib (decDigits) in
theorem k_num (n : Int) (h : 0 ≤ n ∧ n < 100) : Kon Tryd.prog 34 [vI n] [] (vS (decDigits n.toNat)) [] [] := by
  rcases Int.lt_or_le n 10 with h1 | h1
  · exact k_num1 n ⟨h.1, h1⟩
  have hd1 : decide (n < 0) = false := decide_eq_false (by omega)
  have hd2 : decide (n < 10) = false := decide_eq_false (by omega)
  have hK := k_num1 (n / 10) (by omega)
  have e : decDigits n.toNat = decDigits (n / 10).toNat ++ [UInt8.ofNat (48 + n % 10).toNat] := by
    rw [Go.Lib.decDigits, dif_neg (by omega)]
    congr 2
    · omega
    · congr 2; omega
  have hl : (decDigits (n / 10).toNat).length ≤ 20 := by
    rw [Go.Lib.decDigits_one (by omega)]; simp
  rw [e]
  (refine kon_mk T0ok (fn := Tryd.f34) (c := Tryd.f34.body.get rfl) Tryd.func34 rfl (by rfl) (by rfl) (by rfl) ?_; intro hfit hfe)
  (repeat (first | refine gq_LA ?_ | (refine ga_LA ?_; intro _hq)))
  (repeat (first | refine gq_LA ?_ | (refine ga_LA ?_; intro _hq) | refine gd_LA ?_))
  ((try refine aw_ret ?_); refine ret_auto2 (by rfl) (by rfl) (by rfl) (by repeat (first | exact trivial | refine ⟨by first | rfl | omega, ?_⟩)) ?_ (by repeat (first | exact trivial | refine ⟨by rfl, by rfl, ?_⟩)) (by repeat (first | exact trivial | refine ⟨by rfl, by rfl, ?_⟩)); try rfl)
/-- The name of a kind. -/
def l9W (k : Int) : List UInt8 := if k = 0 then [97, 100, 100] else if k = 1 then [116, 97, 107, 101] else if k = 2 then [109, 111, 114, 101] else if k = 3 then [115, 119, 97, 112] else if k = 4 then [114, 101, 112, 101, 97, 116] else if k = 5 then [101, 110, 100] else if k = 6 then [105, 102] else if k = 7 then [101, 108, 115, 101] else [102, 105]
theorem k_l9W (k : Int) (h : 0 ≤ k ∧ k ≤ 8) : Kon Tryd.prog 33 [vI k] [] (vS (l9W k)) [] [] := by
  have h' : k = 0 ∨ k = 1 ∨ k = 2 ∨ k = 3 ∨ k = 4 ∨ k = 5 ∨ k = 6 ∨ k = 7 ∨ k = 8 := by omega
  rcases h' with rfl | rfl | rfl | rfl | rfl | rfl | rfl | rfl | rfl
  all_goals (refine kon_mk T0ok (fn := Tryd.f33) (c := Tryd.f33.body.get rfl) Tryd.func33 rfl (by rfl) (by rfl) (by rfl) ?_; intro hfit hfe)
  all_goals ((repeat (first | refine gq_LA ?_ | (refine ga_LA ?_; intro _hq))))
  all_goals (((try refine aw_ret ?_); refine ret_auto2 (by rfl) (by rfl) (by rfl) (by repeat (first | exact trivial | refine ⟨by first | rfl | omega, ?_⟩)) ?_ (by repeat (first | exact trivial | refine ⟨by rfl, by rfl, ?_⟩)) (by repeat (first | exact trivial | refine ⟨by rfl, by rfl, ?_⟩)); try rfl))
/-- Is a statement valid? -/
def lok (k v w n : Int) : Bool :=
  if k = 0 ∨ k = 1 ∨ k = 3 then btw v 0 3 && btw w 0 3 && (v != w) && (n == 0)
  else if k = 2 ∨ k = 6 ∨ k = 8 then btw v 0 3 && (w == 0) && btw n 0 63
  else if k = 4 then (v == 0) && (w == 0) && btw n 0 3
  else if k = 5 ∨ k = 7 then (v == 0) && (w == 0) && (n == 0) else false
theorem lok_out {k v w n : Int} (h : k < 0 ∨ 8 < k) : lok k v w n = false := by
  unfold lok
  rw [if_neg (by omega), if_neg (by omega), if_neg (by omega), if_neg (by omega)]
theorem lok_A {k v w n : Int} (h : k = 0 ∨ k = 1 ∨ k = 3) : lok k v w n = (btw v 0 3 && btw w 0 3 && (v != w) && (n == 0)) := by unfold lok; rw [if_pos h]
theorem lok_B {k v w n : Int} (h : k = 2 ∨ k = 6 ∨ k = 8) : lok k v w n = (btw v 0 3 && (w == 0) && btw n 0 63) := by unfold lok; rw [if_neg (by omega), if_pos h]
theorem lok_C {v w n : Int} : lok 4 v w n = ((v == 0) && (w == 0) && btw n 0 3) := by unfold lok; rw [if_neg (by omega), if_neg (by omega), if_pos rfl]
theorem lok_D {k v w n : Int} (h : k = 5 ∨ k = 7) : lok k v w n = ((v == 0) && (w == 0) && (n == 0)) := by unfold lok; rw [if_neg (by omega), if_neg (by omega), if_neg (by omega), if_pos h]
theorem k_lvS0 (k v w n : Int) (h0 : k < 0 ∨ 8 < k) : Kon Tryd.prog 32 [lV k v w n] [] (vB (lok k v w n)) [] [] := by
  rw [lok_out h0]
  have hk : (k == 0) = false ∧ (k == 1) = false ∧ (k == 2) = false ∧ (k == 3) = false ∧ (k == 4) = false ∧ (k == 5) = false ∧ (k == 6) = false ∧ (k == 7) = false ∧ (k == 8) = false := by
    refine ⟨?_, ?_, ?_, ?_, ?_, ?_, ?_, ?_, ?_⟩ <;> (simp; omega)
  obtain ⟨k0, k1, k2, k3, k4, k5, k6, k7, k8⟩ := hk
  (refine kon_mk T0ok (fn := Tryd.f32) (c := Tryd.f32.body.get rfl) Tryd.func32 rfl (by rfl) (by rfl) (by rfl) ?_; intro hfit hfe)
  (repeat (first | refine gq_LA ?_ | (refine ga_LA ?_; intro _hq)))
  ((try refine aw_ret ?_); refine ret_auto2 (by rfl) (by rfl) (by rfl) (by repeat (first | exact trivial | refine ⟨by first | rfl | omega, ?_⟩)) ?_ (by repeat (first | exact trivial | refine ⟨by rfl, by rfl, ?_⟩)) (by repeat (first | exact trivial | refine ⟨by rfl, by rfl, ?_⟩)); try rfl)
set_option maxHeartbeats 4000000 in
theorem k_lvSA (k v w n : Int) (hk : k = 0 ∨ k = 1 ∨ k = 3) : Kon Tryd.prog 32 [lV k v w n] [] (vB (lok k v w n)) [] [] := by
  rw [lok_A hk]
  cases h1 : btw v 0 3 <;> cases h2 : btw w 0 3 <;> cases h3 : (v != w)
  all_goals rcases hk with rfl | rfl | rfl
  all_goals (refine kon_mk T0ok (fn := Tryd.f32) (c := Tryd.f32.body.get rfl) Tryd.func32 rfl (by rfl) (by rfl) (by rfl) ?_; intro hfit hfe)
  all_goals ((repeat (first | refine gq_LA ?_ | (refine ga_LA ?_; intro _hq))))
  all_goals (((try refine aw_ret ?_); refine ret_auto2 (by rfl) (by rfl) (by rfl) (by repeat (first | exact trivial | refine ⟨by first | rfl | omega, ?_⟩)) ?_ (by repeat (first | exact trivial | refine ⟨by rfl, by rfl, ?_⟩)) (by repeat (first | exact trivial | refine ⟨by rfl, by rfl, ?_⟩)); try rfl))
set_option maxHeartbeats 4000000 in
theorem k_lvSB (k v w n : Int) (hk : k = 2 ∨ k = 6 ∨ k = 8) : Kon Tryd.prog 32 [lV k v w n] [] (vB (lok k v w n)) [] [] := by
  rw [lok_B hk]
  cases h1 : btw v 0 3 <;> cases h2 : (w == 0)
  all_goals rcases hk with rfl | rfl | rfl
  all_goals (refine kon_mk T0ok (fn := Tryd.f32) (c := Tryd.f32.body.get rfl) Tryd.func32 rfl (by rfl) (by rfl) (by rfl) ?_; intro hfit hfe)
  all_goals ((repeat (first | refine gq_LA ?_ | (refine ga_LA ?_; intro _hq))))
  all_goals (((try refine aw_ret ?_); refine ret_auto2 (by rfl) (by rfl) (by rfl) (by repeat (first | exact trivial | refine ⟨by first | rfl | omega, ?_⟩)) ?_ (by repeat (first | exact trivial | refine ⟨by rfl, by rfl, ?_⟩)) (by repeat (first | exact trivial | refine ⟨by rfl, by rfl, ?_⟩)); try rfl))
set_option maxHeartbeats 4000000 in
theorem k_lvSC (v w n : Int) : Kon Tryd.prog 32 [lV 4 v w n] [] (vB (lok 4 v w n)) [] [] := by
  rw [lok_C]
  cases h1 : (v == 0) <;> cases h2 : (w == 0)
  all_goals (refine kon_mk T0ok (fn := Tryd.f32) (c := Tryd.f32.body.get rfl) Tryd.func32 rfl (by rfl) (by rfl) (by rfl) ?_; intro hfit hfe)
  all_goals ((repeat (first | refine gq_LA ?_ | (refine ga_LA ?_; intro _hq))))
  all_goals (((try refine aw_ret ?_); refine ret_auto2 (by rfl) (by rfl) (by rfl) (by repeat (first | exact trivial | refine ⟨by first | rfl | omega, ?_⟩)) ?_ (by repeat (first | exact trivial | refine ⟨by rfl, by rfl, ?_⟩)) (by repeat (first | exact trivial | refine ⟨by rfl, by rfl, ?_⟩)); try rfl))
theorem k_lvSD (k v w n : Int) (hk : k = 5 ∨ k = 7) : Kon Tryd.prog 32 [lV k v w n] [] (vB (lok k v w n)) [] [] := by
  rw [lok_D hk]
  rcases hk with rfl | rfl
  all_goals (refine kon_mk T0ok (fn := Tryd.f32) (c := Tryd.f32.body.get rfl) Tryd.func32 rfl (by rfl) (by rfl) (by rfl) ?_; intro hfit hfe)
  all_goals ((repeat (first | refine gq_LA ?_ | (refine ga_LA ?_; intro _hq))))
  all_goals (((try refine aw_ret ?_); refine ret_auto2 (by rfl) (by rfl) (by rfl) (by repeat (first | exact trivial | refine ⟨by first | rfl | omega, ?_⟩)) ?_ (by repeat (first | exact trivial | refine ⟨by rfl, by rfl, ?_⟩)) (by repeat (first | exact trivial | refine ⟨by rfl, by rfl, ?_⟩)); try rfl))
  all_goals (cases (v == 0) <;> cases (w == 0) <;> cases (n == 0) <;> rfl)
theorem k_lvS (k v w n : Int) : Kon Tryd.prog 32 [lV k v w n] [] (vB (lok k v w n)) [] [] := by
  by_cases h0 : k < 0 ∨ 8 < k
  · exact k_lvS0 k v w n h0
  have h' : (k = 0 ∨ k = 1 ∨ k = 3) ∨ (k = 2 ∨ k = 6 ∨ k = 8) ∨ k = 4 ∨ (k = 5 ∨ k = 7) := by omega
  rcases h' with hk | hk | rfl | hk
  · exact k_lvSA k v w n hk
  · exact k_lvSB k v w n hk
  · exact k_lvSC v w n
  · exact k_lvSD k v w n hk
open Go.Lib (decDigits) in
/-- The text of a valid statement. -/
def lnT (k v w n : Int) : List UInt8 :=
  if k = 0 ∨ k = 1 ∨ k = 3 then l9W k ++ [32] ++ decDigits v.toNat ++ [32] ++ decDigits w.toNat
  else if k = 2 ∨ k = 6 ∨ k = 8 then l9W k ++ [32] ++ decDigits v.toNat ++ [32] ++ decDigits n.toNat
  else if k = 4 then l9W 4 ++ [32] ++ decDigits n.toNat
  else l9W k
def ltx (k v w n : Int) : List UInt8 := if lok k v w n = true then lnT k v w n else []
end Go.Proofs.YtjhdfkifpmmefaaDoor

/- What is known of the kinds of statements; whether a statement is valid, in the program. -/
namespace Go.Proofs.YtjhdfkifpmmefaaDoor
set_option linter.unusedVariables false
set_option linter.unusedSimpArgs false
set_option maxRecDepth 20000
open Go.RowKit
attribute [local irreducible] runA runX AW
theorem gq_LB0 {H G : Prop} (k : H) (h : Hid H → G := by (intro hh; (first | (first | ((first | refine r_none ?_ | refine r_gt (by rfl) (by rfl) (by first | rfl | assumption | omega | (simp only [*, Bool.not_false, Bool.not_true]; first | done | fail) | (simp [*]; first | done | fail)) (by rfl) ?_ | refine r_gf (by rfl) (by rfl) (by first | rfl | assumption | omega | (simp only [*, Bool.not_false, Bool.not_true]; first | done | fail) | (simp [*]; first | done | fail)) (by rfl) ?_); (first | refine r_pure2 (by rfl) (by rfl) (fun w => rfl) (by rfl) (by rfl) ?_ | ((first | (refine z_op (by rfl) ?_; first | refine z_ok ?_ ?_ | refine z_ex ?_ (by first | exact ft_raw rfl rfl | ((first | refine ft_rp rfl rfl rfl ?_ | refine ft_row rfl rfl rfl ?_ | refine ft_rpF rfl rfl rfl ?_ | refine ft_rowF rfl rfl rfl ?_ | refine up_row rfl rfl ?_ | refine up_rowF rfl rfl rfl ?_ | refine ct_0 rfl ?_ | refine ct_r rfl rfl ?_ | refine ct_c rfl rfl rfl ?_ | refine cu_all rfl ?_ | refine cu_to rfl ?_ | refine cu_from rfl ?_ | refine cu_p rfl ?_ | fail); (first | omega | (simp only [List.length_append, List.length_replicate, List.length_cons, List.length_nil, List.length_set, List.length_take, List.length_drop, true_and]; omega))) | exact up_raw rfl | exact pk_t (by first | rfl | assumption | omega | (simp only [*, Bool.not_false, Bool.not_true]; first | done | fail) | (simp [*]; first | done | fail)) rfl | exact pk_f (by first | rfl | assumption | omega | (simp only [*, Bool.not_false, Bool.not_true]; first | done | fail) | (simp [*]; first | done | fail)) rfl | fail | exact rw_raw | exact pu_cv (fun w => rfl) (by omega) | exact pu_of (fun w => rfl) rfl | exact be_of (fun w => rfl) | exact nc_of (fun _ _ _ _ => rfl) rfl | exact bu_of (fun w => rfl) rfl | fail) ?_) | ((first | refine q_callE wsT wsZ (by rfl) ?_ | refine q_callVE wsT (by rfl) (by rfl) ?_); refine ⟨_, _, _, (by first | assumption | exact k_within _ _ _ | exact k_shapes | exact k_topT _ | exact k_topF _), _, by rfl, ?_, ?_⟩)); focus (first | exact trivial | fail | exact rfl | (first | omega | (simp only [List.length_append, List.length_replicate, List.length_cons, List.length_nil, List.length_set, List.length_take, List.length_drop, true_and]; omega)) | exact cvB (fun w => rfl) | ((repeat' (first | exact rfl | exact cV_len _ | exact cV_ln rfl (by omega) | exact Cel.pos | omega | exact trivial | refine And.intro ?_ ?_)); done) | (simp [*]; done) | (simp; omega))) | fail)) | refine r_nt (by rfl) (by rfl) (by first | rfl | assumption | omega | (simp only [*, Bool.not_false, Bool.not_true]; first | done | fail) | (simp [*]; first | done | fail)) (by rfl) ?_ | refine r_nf (by rfl) (by rfl) (by first | rfl | assumption | omega | (simp only [*, Bool.not_false, Bool.not_true]; first | done | fail) | (simp [*]; first | done | fail)) (by rfl) ?_ | refine r_gu (by rfl) (by rfl) (by rfl) ?_ | refine r_nil ?_) | (first | refine aw_seq ?_ | refine aw_ct (by rfl) (by first | rfl | assumption | omega | (simp only [*, Bool.not_false, Bool.not_true]; first | done | fail) | (simp [*]; first | done | fail)) ?_ | refine aw_cf (by rfl) (by first | rfl | assumption | omega | (simp only [*, Bool.not_false, Bool.not_true]; first | done | fail) | (simp [*]; first | done | fail)) ?_ | refine aw_block ?_ | refine aw_region T0ok cfU_ok (by rfl) ?_ | refine aw_skip ?_ | refine aw_exit ?_ | refine ra_step ?_)); (repeat (first | (first | ((first | refine r_none ?_ | refine r_gt (by rfl) (by rfl) (by first | rfl | assumption | omega | (simp only [*, Bool.not_false, Bool.not_true]; first | done | fail) | (simp [*]; first | done | fail)) (by rfl) ?_ | refine r_gf (by rfl) (by rfl) (by first | rfl | assumption | omega | (simp only [*, Bool.not_false, Bool.not_true]; first | done | fail) | (simp [*]; first | done | fail)) (by rfl) ?_); (first | refine r_pure2 (by rfl) (by rfl) (fun w => rfl) (by rfl) (by rfl) ?_ | ((first | (refine z_op (by rfl) ?_; first | refine z_ok ?_ ?_ | refine z_ex ?_ (by first | exact ft_raw rfl rfl | ((first | refine ft_rp rfl rfl rfl ?_ | refine ft_row rfl rfl rfl ?_ | refine ft_rpF rfl rfl rfl ?_ | refine ft_rowF rfl rfl rfl ?_ | refine up_row rfl rfl ?_ | refine up_rowF rfl rfl rfl ?_ | refine ct_0 rfl ?_ | refine ct_r rfl rfl ?_ | refine ct_c rfl rfl rfl ?_ | refine cu_all rfl ?_ | refine cu_to rfl ?_ | refine cu_from rfl ?_ | refine cu_p rfl ?_ | fail); (first | omega | (simp only [List.length_append, List.length_replicate, List.length_cons, List.length_nil, List.length_set, List.length_take, List.length_drop, true_and]; omega))) | exact up_raw rfl | exact pk_t (by first | rfl | assumption | omega | (simp only [*, Bool.not_false, Bool.not_true]; first | done | fail) | (simp [*]; first | done | fail)) rfl | exact pk_f (by first | rfl | assumption | omega | (simp only [*, Bool.not_false, Bool.not_true]; first | done | fail) | (simp [*]; first | done | fail)) rfl | fail | exact rw_raw | exact pu_cv (fun w => rfl) (by omega) | exact pu_of (fun w => rfl) rfl | exact be_of (fun w => rfl) | exact nc_of (fun _ _ _ _ => rfl) rfl | exact bu_of (fun w => rfl) rfl | fail) ?_) | ((first | refine q_callE wsT wsZ (by rfl) ?_ | refine q_callVE wsT (by rfl) (by rfl) ?_); refine ⟨_, _, _, (by first | assumption | exact k_within _ _ _ | exact k_shapes | exact k_topT _ | exact k_topF _), _, by rfl, ?_, ?_⟩)); focus (first | exact trivial | fail | exact rfl | (first | omega | (simp only [List.length_append, List.length_replicate, List.length_cons, List.length_nil, List.length_set, List.length_take, List.length_drop, true_and]; omega)) | exact cvB (fun w => rfl) | ((repeat' (first | exact rfl | exact cV_len _ | exact cV_ln rfl (by omega) | exact Cel.pos | omega | exact trivial | refine And.intro ?_ ?_)); done) | (simp [*]; done) | (simp; omega))) | fail)) | refine r_nt (by rfl) (by rfl) (by first | rfl | assumption | omega | (simp only [*, Bool.not_false, Bool.not_true]; first | done | fail) | (simp [*]; first | done | fail)) (by rfl) ?_ | refine r_nf (by rfl) (by rfl) (by first | rfl | assumption | omega | (simp only [*, Bool.not_false, Bool.not_true]; first | done | fail) | (simp [*]; first | done | fail)) (by rfl) ?_ | refine r_gu (by rfl) (by rfl) (by rfl) ?_ | refine r_nil ?_) | (first | refine aw_seq ?_ | refine aw_ct (by rfl) (by first | rfl | assumption | omega | (simp only [*, Bool.not_false, Bool.not_true]; first | done | fail) | (simp [*]; first | done | fail)) ?_ | refine aw_cf (by rfl) (by first | rfl | assumption | omega | (simp only [*, Bool.not_false, Bool.not_true]; first | done | fail) | (simp [*]; first | done | fail)) ?_ | refine aw_block ?_ | refine aw_region T0ok cfU_ok (by rfl) ?_ | refine aw_skip ?_ | refine aw_exit ?_ | refine ra_step ?_))); exact hh.out)) : G := h ⟨k⟩
theorem ga_LB0 {H G : Prop} (k : H) (h : Hid H → G := by (intro hh; (first | refine r_none ?_ | refine r_gt (by rfl) (by rfl) (by first | rfl | assumption | omega | (simp only [*, Bool.not_false, Bool.not_true]; first | done | fail) | (simp [*]; first | done | fail)) (by rfl) ?_ | refine r_gf (by rfl) (by rfl) (by first | rfl | assumption | omega | (simp only [*, Bool.not_false, Bool.not_true]; first | done | fail) | (simp [*]; first | done | fail)) (by rfl) ?_); refine z_op (by rfl) ?_; refine z_alV ?_ hh.out; focus (first | exact trivial | fail | exact rfl | (first | omega | (simp only [List.length_append, List.length_replicate, List.length_cons, List.length_nil, List.length_set, List.length_take, List.length_drop, true_and]; omega)) | exact cvB (fun w => rfl) | ((repeat' (first | exact rfl | exact cV_len _ | exact cV_ln rfl (by omega) | exact Cel.pos | omega | exact trivial | refine And.intro ?_ ?_)); done) | (simp [*]; done) | (simp; omega)))) : G := h ⟨k⟩
/-- What is known of a kind: its name, whether it has two registers and a number, the greatest number. -/
def shC (k : Int) : List AC := if k = 0 then [.v (.string ⟨#[97, 100, 100]⟩), .v (.bool true), .v (.bool true), .v (.bool false), .v (.int .i64 0)]
   else if k = 1 then [.v (.string ⟨#[116, 97, 107, 101]⟩), .v (.bool true), .v (.bool true), .v (.bool false), .v (.int .i64 0)]
   else if k = 2 then [.v (.string ⟨#[109, 111, 114, 101]⟩), .v (.bool true), .v (.bool false), .v (.bool true), .v (.int .i64 63)]
   else if k = 3 then [.v (.string ⟨#[115, 119, 97, 112]⟩), .v (.bool true), .v (.bool true), .v (.bool false), .v (.int .i64 0)]
   else if k = 4 then [.v (.string ⟨#[114, 101, 112, 101, 97, 116]⟩), .v (.bool false), .v (.bool false), .v (.bool true), .v (.int .i64 3)]
   else if k = 5 then [.v (.string ⟨#[101, 110, 100]⟩), .v (.bool false), .v (.bool false), .v (.bool false), .v (.int .i64 0)]
   else if k = 6 then [.v (.string ⟨#[105, 102]⟩), .v (.bool true), .v (.bool false), .v (.bool true), .v (.int .i64 63)]
   else if k = 7 then [.v (.string ⟨#[101, 108, 115, 101]⟩), .v (.bool false), .v (.bool false), .v (.bool false), .v (.int .i64 0)]
   else [.v (.string ⟨#[102, 105]⟩), .v (.bool true), .v (.bool false), .v (.bool true), .v (.int .i64 63)]
def shV (k : Int) : Value := if k = 0 then .agg #[.string ⟨#[97, 100, 100]⟩, .bool true, .bool true, .bool false, .int .i64 0]
   else if k = 1 then .agg #[.string ⟨#[116, 97, 107, 101]⟩, .bool true, .bool true, .bool false, .int .i64 0]
   else if k = 2 then .agg #[.string ⟨#[109, 111, 114, 101]⟩, .bool true, .bool false, .bool true, .int .i64 63]
   else if k = 3 then .agg #[.string ⟨#[115, 119, 97, 112]⟩, .bool true, .bool true, .bool false, .int .i64 0]
   else if k = 4 then .agg #[.string ⟨#[114, 101, 112, 101, 97, 116]⟩, .bool false, .bool false, .bool true, .int .i64 3]
   else if k = 5 then .agg #[.string ⟨#[101, 110, 100]⟩, .bool false, .bool false, .bool false, .int .i64 0]
   else if k = 6 then .agg #[.string ⟨#[105, 102]⟩, .bool true, .bool false, .bool true, .int .i64 63]
   else if k = 7 then .agg #[.string ⟨#[101, 108, 115, 101]⟩, .bool false, .bool false, .bool false, .int .i64 0]
   else .agg #[.string ⟨#[102, 105]⟩, .bool true, .bool false, .bool true, .int .i64 63]
theorem k_shapes : Kon Tryd.prog 35 [] [] (.g (.agg (shC 0 ++ shC 1 ++ shC 2 ++ shC 3 ++ shC 4 ++ shC 5 ++ shC 6 ++ shC 7 ++ shC 8))) [] [] := by
  (refine kon_mk T0ok (fn := Tryd.f35) (c := Tryd.f35.body.get rfl) Tryd.func35 rfl (by rfl) (by rfl) (by rfl) ?_; intro hfit hfe)
  (repeat (first | refine gq_LB0 ?_ | (refine ga_LB0 ?_; intro _hq)))
  ((try refine aw_ret ?_); refine ret_auto2 (by rfl) (by rfl) (by rfl) (by repeat (first | exact trivial | refine ⟨by first | rfl | omega, ?_⟩)) ?_ (by repeat (first | exact trivial | refine ⟨by rfl, by rfl, ?_⟩)) (by repeat (first | exact trivial | refine ⟨by rfl, by rfl, ?_⟩)); try rfl)
theorem k_topT (m : Int) : Kon Tryd.prog 41 [vB true, vI m] [] (vI m) [] [] := by
  (refine kon_mk T0ok (fn := Tryd.f41) (c := Tryd.f41.body.get rfl) Tryd.func41 rfl (by rfl) (by rfl) (by rfl) ?_; intro hfit hfe)
  (repeat (first | refine gq_LB0 ?_ | (refine ga_LB0 ?_; intro _hq)))
  ((try refine aw_ret ?_); refine ret_auto2 (by rfl) (by rfl) (by rfl) (by repeat (first | exact trivial | refine ⟨by first | rfl | omega, ?_⟩)) ?_ (by repeat (first | exact trivial | refine ⟨by rfl, by rfl, ?_⟩)) (by repeat (first | exact trivial | refine ⟨by rfl, by rfl, ?_⟩)); try rfl)
theorem k_topF (m : Int) : Kon Tryd.prog 41 [vB false, vI m] [] (vI 0) [] [] := by
  (refine kon_mk T0ok (fn := Tryd.f41) (c := Tryd.f41.body.get rfl) Tryd.func41 rfl (by rfl) (by rfl) (by rfl) ?_; intro hfit hfe)
  (repeat (first | refine gq_LB0 ?_ | (refine ga_LB0 ?_; intro _hq)))
  ((try refine aw_ret ?_); refine ret_auto2 (by rfl) (by rfl) (by rfl) (by repeat (first | exact trivial | refine ⟨by first | rfl | omega, ?_⟩)) ?_ (by repeat (first | exact trivial | refine ⟨by rfl, by rfl, ?_⟩)) (by repeat (first | exact trivial | refine ⟨by rfl, by rfl, ?_⟩)); try rfl)
theorem btw_0 (x : Int) : btw x 0 0 = (x == 0) := by
  unfold btw
  rw [Bool.eq_iff_iff]; simp; omega
end Go.Proofs.YtjhdfkifpmmefaaDoor
