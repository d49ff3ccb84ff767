/- Tab, ZA, ShlA, DN: laid into one text. -/
import Derived.Test.YtgphlcdinejmdaaDoorQTD
import Derived.Test.YtgphlcdinejmdaaDoorQTE
import Derived.Test.YtgphlcdinejmdaaDoorRows
import Derived.Shelf.Lays
import Derived.Shelf.Strconv.Itoa3
import Derived.Shelf.Strings.OnBuilder
import Derived.Test.YtgphlcdinejmdaaDoorProg

/- The table of this program's types. -/
namespace Go.Proofs.YtgphlcdinejmdaaDoor
set_option maxRecDepth 10000
theorem allN {α : Type} {Q : α → Prop} : ∀ p ∈ ([] : List α), Q p := fun p hp => by cases hp
theorem allC {α : Type} {Q : α → Prop} {x : α} {l : List α} (h : Q x) (h' : ∀ p ∈ l, Q p) : ∀ p ∈ x :: l, Q p := fun p hp => by
  rcases List.mem_cons.1 hp with rfl | hp
  · exact h
  · exact h' p hp
def T0 : Tab := ⟨[(2, (false, 1)), (3, (false, 1)), (4, (false, 1)), (5, (false, 1)), (9, (false, 1)), (12, (false, 1)), (13, (true, 2)), (19, (true, 1)), (21, (false, 1)), (22, (true, 4)), (23, (true, 4)), (24, (true, 6)), (25, (true, 6)), (27, (true, 4)), (28, (true, 6)), (29, (true, 6)), (36, (false, 1)), (39, (false, 1)), (49, (false, 1)), (63, (false, 1)), (64, (false, 1)), (65, (true, 2)), (66, (true, 2)), (71, (false, 1)), (73, (true, 4)), (74, (true, 4)), (81, (true, 20)), (83, (false, 1)), (84, (false, 1)), (85, (false, 1)), (89, (true, 3)), (92, (false, 1)), (95, (false, 1)), (101, (true, 24)), (102, (false, 1)), (109, (false, 1)), (113, (true, 3)), (114, (true, 3)), (118, (true, 20)), (119, (false, 1)), (127, (true, 1)), (132, (true, 32)), (133, (true, 64)), (135, (true, 2)), (136, (true, 2)), (137, (true, 32))],
  [(13000, (0, false, 1)), (13001, (1, false, 1)), (19000, (0, false, 1)), (22000, (0, false, 1)), (22001, (1, false, 1)), (22002, (2, false, 1)), (22003, (3, false, 1)), (23000, (0, false, 1)), (23001, (1, false, 1)), (23002, (2, false, 1)), (23003, (3, false, 1)), (24000, (0, false, 1)), (24001, (1, false, 1)), (24002, (2, true, 4)), (25000, (0, false, 1)), (25001, (1, false, 1)), (25002, (2, true, 4)), (27000, (0, false, 1)), (27001, (1, false, 1)), (27002, (2, false, 1)), (27003, (3, false, 1)), (28000, (0, false, 1)), (28001, (1, false, 1)), (28002, (2, true, 4)), (29000, (0, false, 1)), (29001, (1, false, 1)), (29002, (2, true, 4)), (65000, (0, false, 1)), (65001, (1, false, 1)), (66000, (0, false, 1)), (66001, (1, false, 1)), (73000, (0, false, 1)), (73001, (1, false, 1)), (73002, (2, false, 1)), (73003, (3, false, 1)), (74000, (0, false, 1)), (74001, (1, false, 1)), (74002, (2, false, 1)), (74003, (3, false, 1)), (113000, (0, false, 1)), (113001, (1, false, 1)), (113002, (2, false, 1)), (114000, (0, false, 1)), (114001, (1, false, 1)), (114002, (2, false, 1)), (127000, (0, false, 1)), (135000, (0, false, 1)), (135001, (1, false, 1)), (136000, (0, false, 1)), (136001, (1, false, 1))],
  [(36, (none, 25, true, 6, 48)), (39, (none, 29, true, 6, 48)), (49, (none, 9, false, 1, 16)), (64, (none, 5, false, 1, 1)), (71, (none, 3, false, 1, 8)), (81, (some 5, 74, true, 4, 40)), (84, (none, 83, false, 1, 8)), (89, (some 3, 3, false, 1, 8)), (101, (some 24, 5, false, 1, 1)), (118, (some 20, 102, false, 1, 8)), (132, (some 32, 5, false, 1, 1)), (133, (some 64, 5, false, 1, 1)), (137, (some 16, 136, true, 2, 2))],
  [(2, [.int .i64 0]), (3, [.int .i64 0]), (4, [.bool false]), (5, [.int .u8 0]), (9, [.string ByteArray.empty]), (12, [.int .u64 0]), (13, [.string ByteArray.empty, .int .u64 0]), (19, [.pointer none]), (21, [.int .i32 0]), (22, [.int .i64 0, .int .i64 0, .int .i64 0, .int .i64 0]), (23, [.int .i64 0, .int .i64 0, .int .i64 0, .int .i64 0]), (24, [.int .i64 0, .int .i64 0, .int .i64 0, .int .i64 0, .int .i64 0, .int .i64 0]), (25, [.int .i64 0, .int .i64 0, .int .i64 0, .int .i64 0, .int .i64 0, .int .i64 0]), (27, [.int .i64 0, .int .i64 0, .int .i64 0, .int .i64 0]), (28, [.int .i64 0, .int .i64 0, .int .i64 0, .int .i64 0, .int .i64 0, .int .i64 0]), (29, [.int .i64 0, .int .i64 0, .int .i64 0, .int .i64 0, .int .i64 0, .int .i64 0]), (36, [.slice none 0 0]), (39, [.slice none 0 0]), (49, [.slice none 0 0]), (63, [.pointer none]), (64, [.slice none 0 0]), (65, [.pointer none, .slice none 0 0]), (66, [.pointer none, .slice none 0 0]), (71, [.slice none 0 0]), (73, [.string ByteArray.empty, .int .i64 0, .int .i64 0, .int .i64 0]), (74, [.string ByteArray.empty, .int .i64 0, .int .i64 0, .int .i64 0]), (81, [.string ByteArray.empty, .int .i64 0, .int .i64 0, .int .i64 0, .string ByteArray.empty, .int .i64 0, .int .i64 0, .int .i64 0, .string ByteArray.empty, .int .i64 0, .int .i64 0, .int .i64 0, .string ByteArray.empty, .int .i64 0, .int .i64 0, .int .i64 0, .string ByteArray.empty, .int .i64 0, .int .i64 0, .int .i64 0]), (83, [.pointer none]), (84, [.slice none 0 0]), (85, [.pointer none]), (89, [.int .i64 0, .int .i64 0, .int .i64 0]), (92, [.int .i64 0]), (95, [.pointer none]), (101, [.int .u8 0, .int .u8 0, .int .u8 0, .int .u8 0, .int .u8 0, .int .u8 0, .int .u8 0, .int .u8 0, .int .u8 0, .int .u8 0, .int .u8 0, .int .u8 0, .int .u8 0, .int .u8 0, .int .u8 0, .int .u8 0, .int .u8 0, .int .u8 0, .int .u8 0, .int .u8 0, .int .u8 0, .int .u8 0, .int .u8 0, .int .u8 0]), (102, [.int .u64 0]), (109, [.int .u64 0]), (113, [.string ByteArray.empty, .string ByteArray.empty, .nilIface]), (114, [.string ByteArray.empty, .string ByteArray.empty, .nilIface]), (118, [.int .u64 0, .int .u64 0, .int .u64 0, .int .u64 0, .int .u64 0, .int .u64 0, .int .u64 0, .int .u64 0, .int .u64 0, .int .u64 0, .int .u64 0, .int .u64 0, .int .u64 0, .int .u64 0, .int .u64 0, .int .u64 0, .int .u64 0, .int .u64 0, .int .u64 0, .int .u64 0]), (119, [.int .u32 0]), (127, [.string ByteArray.empty]), (132, [.int .u8 0, .int .u8 0, .int .u8 0, .int .u8 0, .int .u8 0, .int .u8 0, .int .u8 0, .int .u8 0, .int .u8 0, .int .u8 0, .int .u8 0, .int .u8 0, .int .u8 0, .int .u8 0, .int .u8 0, .int .u8 0, .int .u8 0, .int .u8 0, .int .u8 0, .int .u8 0, .int .u8 0, .int .u8 0, .int .u8 0, .int .u8 0, .int .u8 0, .int .u8 0, .int .u8 0, .int .u8 0, .int .u8 0, .int .u8 0, .int .u8 0, .int .u8 0]), (133, [.int .u8 0, .int .u8 0, .int .u8 0, .int .u8 0, .int .u8 0, .int .u8 0, .int .u8 0, .int .u8 0, .int .u8 0, .int .u8 0, .int .u8 0, .int .u8 0, .int .u8 0, .int .u8 0, .int .u8 0, .int .u8 0, .int .u8 0, .int .u8 0, .int .u8 0, .int .u8 0, .int .u8 0, .int .u8 0, .int .u8 0, .int .u8 0, .int .u8 0, .int .u8 0, .int .u8 0, .int .u8 0, .int .u8 0, .int .u8 0, .int .u8 0, .int .u8 0, .int .u8 0, .int .u8 0, .int .u8 0, .int .u8 0, .int .u8 0, .int .u8 0, .int .u8 0, .int .u8 0, .int .u8 0, .int .u8 0, .int .u8 0, .int .u8 0, .int .u8 0, .int .u8 0, .int .u8 0, .int .u8 0, .int .u8 0, .int .u8 0, .int .u8 0, .int .u8 0, .int .u8 0, .int .u8 0, .int .u8 0, .int .u8 0, .int .u8 0, .int .u8 0, .int .u8 0, .int .u8 0, .int .u8 0, .int .u8 0, .int .u8 0, .int .u8 0]), (135, [.int .u8 0, .int .u8 0]), (136, [.int .u8 0, .int .u8 0]), (137, [.int .u8 0, .int .u8 0, .int .u8 0, .int .u8 0, .int .u8 0, .int .u8 0, .int .u8 0, .int .u8 0, .int .u8 0, .int .u8 0, .int .u8 0, .int .u8 0, .int .u8 0, .int .u8 0, .int .u8 0, .int .u8 0, .int .u8 0, .int .u8 0, .int .u8 0, .int .u8 0, .int .u8 0, .int .u8 0, .int .u8 0, .int .u8 0, .int .u8 0, .int .u8 0, .int .u8 0, .int .u8 0, .int .u8 0, .int .u8 0, .int .u8 0, .int .u8 0])],
  [(13, ([.string ByteArray.empty, .int .u64 0], some [(0, 1), (1, 1)], 0)), (19, ([.pointer none], some [(0, 1)], 0)), (22, ([.int .i64 0, .int .i64 0, .int .i64 0, .int .i64 0], some [(0, 1), (1, 1), (2, 1), (3, 1)], 0)), (23, ([.int .i64 0, .int .i64 0, .int .i64 0, .int .i64 0], some [(0, 1), (1, 1), (2, 1), (3, 1)], 0)), (24, ([.int .i64 0, .int .i64 0, .int .i64 0, .int .i64 0, .int .i64 0, .int .i64 0], some [(0, 1), (1, 1), (2, 4)], 0)), (25, ([.int .i64 0, .int .i64 0, .int .i64 0, .int .i64 0, .int .i64 0, .int .i64 0], some [(0, 1), (1, 1), (2, 4)], 0)), (27, ([.int .i64 0, .int .i64 0, .int .i64 0, .int .i64 0], some [(0, 1), (1, 1), (2, 1), (3, 1)], 0)), (28, ([.int .i64 0, .int .i64 0, .int .i64 0, .int .i64 0, .int .i64 0, .int .i64 0], some [(0, 1), (1, 1), (2, 4)], 0)), (29, ([.int .i64 0, .int .i64 0, .int .i64 0, .int .i64 0, .int .i64 0, .int .i64 0], some [(0, 1), (1, 1), (2, 4)], 0)), (65, ([.pointer none, .slice none 0 0], some [(0, 1), (1, 1)], 0)), (66, ([.pointer none, .slice none 0 0], some [(0, 1), (1, 1)], 0)), (73, ([.string ByteArray.empty, .int .i64 0, .int .i64 0, .int .i64 0], some [(0, 1), (1, 1), (2, 1), (3, 1)], 0)), (74, ([.string ByteArray.empty, .int .i64 0, .int .i64 0, .int .i64 0], some [(0, 1), (1, 1), (2, 1), (3, 1)], 0)), (81, ([.string ByteArray.empty, .int .i64 0, .int .i64 0, .int .i64 0, .string ByteArray.empty, .int .i64 0, .int .i64 0, .int .i64 0, .string ByteArray.empty, .int .i64 0, .int .i64 0, .int .i64 0, .string ByteArray.empty, .int .i64 0, .int .i64 0, .int .i64 0, .string ByteArray.empty, .int .i64 0, .int .i64 0, .int .i64 0], none, 4)), (89, ([.int .i64 0, .int .i64 0, .int .i64 0], none, 1)), (101, ([.int .u8 0, .int .u8 0, .int .u8 0, .int .u8 0, .int .u8 0, .int .u8 0, .int .u8 0, .int .u8 0, .int .u8 0, .int .u8 0, .int .u8 0, .int .u8 0, .int .u8 0, .int .u8 0, .int .u8 0, .int .u8 0, .int .u8 0, .int .u8 0, .int .u8 0, .int .u8 0, .int .u8 0, .int .u8 0, .int .u8 0, .int .u8 0], none, 1)), (113, ([.string ByteArray.empty, .string ByteArray.empty, .nilIface], some [(0, 1), (1, 1), (2, 1)], 0)), (114, ([.string ByteArray.empty, .string ByteArray.empty, .nilIface], some [(0, 1), (1, 1), (2, 1)], 0)), (118, ([.int .u64 0, .int .u64 0, .int .u64 0, .int .u64 0, .int .u64 0, .int .u64 0, .int .u64 0, .int .u64 0, .int .u64 0, .int .u64 0, .int .u64 0, .int .u64 0, .int .u64 0, .int .u64 0, .int .u64 0, .int .u64 0, .int .u64 0, .int .u64 0, .int .u64 0, .int .u64 0], none, 1)), (127, ([.string ByteArray.empty], some [(0, 1)], 0)), (132, ([.int .u8 0, .int .u8 0, .int .u8 0, .int .u8 0, .int .u8 0, .int .u8 0, .int .u8 0, .int .u8 0, .int .u8 0, .int .u8 0, .int .u8 0, .int .u8 0, .int .u8 0, .int .u8 0, .int .u8 0, .int .u8 0, .int .u8 0, .int .u8 0, .int .u8 0, .int .u8 0, .int .u8 0, .int .u8 0, .int .u8 0, .int .u8 0, .int .u8 0, .int .u8 0, .int .u8 0, .int .u8 0, .int .u8 0, .int .u8 0, .int .u8 0, .int .u8 0], none, 1)), (133, ([.int .u8 0, .int .u8 0, .int .u8 0, .int .u8 0, .int .u8 0, .int .u8 0, .int .u8 0, .int .u8 0, .int .u8 0, .int .u8 0, .int .u8 0, .int .u8 0, .int .u8 0, .int .u8 0, .int .u8 0, .int .u8 0, .int .u8 0, .int .u8 0, .int .u8 0, .int .u8 0, .int .u8 0, .int .u8 0, .int .u8 0, .int .u8 0, .int .u8 0, .int .u8 0, .int .u8 0, .int .u8 0, .int .u8 0, .int .u8 0, .int .u8 0, .int .u8 0, .int .u8 0, .int .u8 0, .int .u8 0, .int .u8 0, .int .u8 0, .int .u8 0, .int .u8 0, .int .u8 0, .int .u8 0, .int .u8 0, .int .u8 0, .int .u8 0, .int .u8 0, .int .u8 0, .int .u8 0, .int .u8 0, .int .u8 0, .int .u8 0, .int .u8 0, .int .u8 0, .int .u8 0, .int .u8 0, .int .u8 0, .int .u8 0, .int .u8 0, .int .u8 0, .int .u8 0, .int .u8 0, .int .u8 0, .int .u8 0, .int .u8 0, .int .u8 0], none, 1)), (135, ([.int .u8 0, .int .u8 0], some [(0, 1), (1, 1)], 0)), (136, ([.int .u8 0, .int .u8 0], some [(0, 1), (1, 1)], 0)), (137, ([.int .u8 0, .int .u8 0, .int .u8 0, .int .u8 0, .int .u8 0, .int .u8 0, .int .u8 0, .int .u8 0, .int .u8 0, .int .u8 0, .int .u8 0, .int .u8 0, .int .u8 0, .int .u8 0, .int .u8 0, .int .u8 0, .int .u8 0, .int .u8 0, .int .u8 0, .int .u8 0, .int .u8 0, .int .u8 0, .int .u8 0, .int .u8 0, .int .u8 0, .int .u8 0, .int .u8 0, .int .u8 0, .int .u8 0, .int .u8 0, .int .u8 0, .int .u8 0], none, 2))]⟩
theorem T0ok : TabOk Tryd.prog T0 :=
  ⟨(allC (by kernel_rfl) (allC (by kernel_rfl) (allC (by kernel_rfl) (allC (by kernel_rfl) (allC (by kernel_rfl) (allC (by kernel_rfl) (allC (by kernel_rfl) (allC (by kernel_rfl) (allC (by kernel_rfl) (allC (by kernel_rfl) (allC (by kernel_rfl) (allC (by kernel_rfl) (allC (by kernel_rfl) (allC (by kernel_rfl) (allC (by kernel_rfl) (allC (by kernel_rfl) (allC (by kernel_rfl) (allC (by kernel_rfl) (allC (by kernel_rfl) (allC (by kernel_rfl) (allC (by kernel_rfl) (allC (by kernel_rfl) (allC (by kernel_rfl) (allC (by kernel_rfl) (allC (by kernel_rfl) (allC (by kernel_rfl) (allC (by kernel_rfl) (allC (by kernel_rfl) (allC (by kernel_rfl) (allC (by kernel_rfl) (allC (by kernel_rfl) (allC (by kernel_rfl) (allC (by kernel_rfl) (allC (by kernel_rfl) (allC (by kernel_rfl) (allC (by kernel_rfl) (allC (by kernel_rfl) (allC (by kernel_rfl) (allC (by kernel_rfl) (allC (by kernel_rfl) (allC (by kernel_rfl) (allC (by kernel_rfl) (allC (by kernel_rfl) (allC (by kernel_rfl) (allC (by kernel_rfl) (allC (by kernel_rfl) allN)))))))))))))))))))))))))))))))))))))))))))))),
   (allC ⟨by kernel_rfl, by decide⟩ (allC ⟨by kernel_rfl, by decide⟩ (allC ⟨by kernel_rfl, by decide⟩ (allC ⟨by kernel_rfl, by decide⟩ (allC ⟨by kernel_rfl, by decide⟩ (allC ⟨by kernel_rfl, by decide⟩ (allC ⟨by kernel_rfl, by decide⟩ (allC ⟨by kernel_rfl, by decide⟩ (allC ⟨by kernel_rfl, by decide⟩ (allC ⟨by kernel_rfl, by decide⟩ (allC ⟨by kernel_rfl, by decide⟩ (allC ⟨by kernel_rfl, by decide⟩ (allC ⟨by kernel_rfl, by decide⟩ (allC ⟨by kernel_rfl, by decide⟩ (allC ⟨by kernel_rfl, by decide⟩ (allC ⟨by kernel_rfl, by decide⟩ (allC ⟨by kernel_rfl, by decide⟩ (allC ⟨by kernel_rfl, by decide⟩ (allC ⟨by kernel_rfl, by decide⟩ (allC ⟨by kernel_rfl, by decide⟩ (allC ⟨by kernel_rfl, by decide⟩ (allC ⟨by kernel_rfl, by decide⟩ (allC ⟨by kernel_rfl, by decide⟩ (allC ⟨by kernel_rfl, by decide⟩ (allC ⟨by kernel_rfl, by decide⟩ (allC ⟨by kernel_rfl, by decide⟩ (allC ⟨by kernel_rfl, by decide⟩ (allC ⟨by kernel_rfl, by decide⟩ (allC ⟨by kernel_rfl, by decide⟩ (allC ⟨by kernel_rfl, by decide⟩ (allC ⟨by kernel_rfl, by decide⟩ (allC ⟨by kernel_rfl, by decide⟩ (allC ⟨by kernel_rfl, by decide⟩ (allC ⟨by kernel_rfl, by decide⟩ (allC ⟨by kernel_rfl, by decide⟩ (allC ⟨by kernel_rfl, by decide⟩ (allC ⟨by kernel_rfl, by decide⟩ (allC ⟨by kernel_rfl, by decide⟩ (allC ⟨by kernel_rfl, by decide⟩ (allC ⟨by kernel_rfl, by decide⟩ (allC ⟨by kernel_rfl, by decide⟩ (allC ⟨by kernel_rfl, by decide⟩ (allC ⟨by kernel_rfl, by decide⟩ (allC ⟨by kernel_rfl, by decide⟩ (allC ⟨by kernel_rfl, by decide⟩ (allC ⟨by kernel_rfl, by decide⟩ (allC ⟨by kernel_rfl, by decide⟩ (allC ⟨by kernel_rfl, by decide⟩ (allC ⟨by kernel_rfl, by decide⟩ (allC ⟨by kernel_rfl, by decide⟩ allN)))))))))))))))))))))))))))))))))))))))))))))))))),
   (allC ⟨by kernel_rfl, by decide⟩ (allC ⟨by kernel_rfl, by decide⟩ (allC ⟨by kernel_rfl, by decide⟩ (allC ⟨by kernel_rfl, by decide⟩ (allC ⟨by kernel_rfl, by decide⟩ (allC ⟨by kernel_rfl, by decide⟩ (allC ⟨by kernel_rfl, by decide⟩ (allC ⟨by kernel_rfl, by decide⟩ (allC ⟨by kernel_rfl, by decide⟩ (allC ⟨by kernel_rfl, by decide⟩ (allC ⟨by kernel_rfl, by decide⟩ (allC ⟨by kernel_rfl, by decide⟩ (allC ⟨by kernel_rfl, by decide⟩ allN))))))))))))),
   (allC ⟨by kernel_rfl, rfl⟩ (allC ⟨by kernel_rfl, rfl⟩ (allC ⟨by kernel_rfl, rfl⟩ (allC ⟨by kernel_rfl, rfl⟩ (allC ⟨by kernel_rfl, rfl⟩ (allC ⟨by kernel_rfl, rfl⟩ (allC ⟨by kernel_rfl, rfl⟩ (allC ⟨by kernel_rfl, rfl⟩ (allC ⟨by kernel_rfl, rfl⟩ (allC ⟨by kernel_rfl, rfl⟩ (allC ⟨by kernel_rfl, rfl⟩ (allC ⟨by kernel_rfl, rfl⟩ (allC ⟨by kernel_rfl, rfl⟩ (allC ⟨by kernel_rfl, rfl⟩ (allC ⟨by kernel_rfl, rfl⟩ (allC ⟨by kernel_rfl, rfl⟩ (allC ⟨by kernel_rfl, rfl⟩ (allC ⟨by kernel_rfl, rfl⟩ (allC ⟨by kernel_rfl, rfl⟩ (allC ⟨by kernel_rfl, rfl⟩ (allC ⟨by kernel_rfl, rfl⟩ (allC ⟨by kernel_rfl, rfl⟩ (allC ⟨by kernel_rfl, rfl⟩ (allC ⟨by kernel_rfl, rfl⟩ (allC ⟨by kernel_rfl, rfl⟩ (allC ⟨by kernel_rfl, rfl⟩ (allC ⟨by kernel_rfl, rfl⟩ (allC ⟨by kernel_rfl, rfl⟩ (allC ⟨by kernel_rfl, rfl⟩ (allC ⟨by kernel_rfl, rfl⟩ (allC ⟨by kernel_rfl, rfl⟩ (allC ⟨by kernel_rfl, rfl⟩ (allC ⟨by kernel_rfl, rfl⟩ (allC ⟨by kernel_rfl, rfl⟩ (allC ⟨by kernel_rfl, rfl⟩ (allC ⟨by kernel_rfl, rfl⟩ (allC ⟨by kernel_rfl, rfl⟩ (allC ⟨by kernel_rfl, rfl⟩ (allC ⟨by kernel_rfl, rfl⟩ (allC ⟨by kernel_rfl, rfl⟩ (allC ⟨by kernel_rfl, rfl⟩ (allC ⟨by kernel_rfl, rfl⟩ (allC ⟨by kernel_rfl, rfl⟩ (allC ⟨by kernel_rfl, rfl⟩ (allC ⟨by kernel_rfl, rfl⟩ (allC ⟨by kernel_rfl, rfl⟩ allN)))))))))))))))))))))))))))))))))))))))))))))),
   (allC ⟨by kernel_rfl, rfl⟩ (allC ⟨by kernel_rfl, rfl⟩ (allC ⟨by kernel_rfl, rfl⟩ (allC ⟨by kernel_rfl, rfl⟩ (allC ⟨by kernel_rfl, rfl⟩ (allC ⟨by kernel_rfl, rfl⟩ (allC ⟨by kernel_rfl, rfl⟩ (allC ⟨by kernel_rfl, rfl⟩ (allC ⟨by kernel_rfl, rfl⟩ (allC ⟨by kernel_rfl, rfl⟩ (allC ⟨by kernel_rfl, rfl⟩ (allC ⟨by kernel_rfl, rfl⟩ (allC ⟨by kernel_rfl, rfl⟩ (allC ⟨by kernel_rfl, rfl⟩ (allC ⟨by kernel_rfl, rfl⟩ (allC ⟨by kernel_rfl, rfl⟩ (allC ⟨by kernel_rfl, rfl⟩ (allC ⟨by kernel_rfl, rfl⟩ (allC ⟨by kernel_rfl, rfl⟩ (allC ⟨by kernel_rfl, rfl⟩ (allC ⟨by kernel_rfl, rfl⟩ (allC ⟨by kernel_rfl, rfl⟩ (allC ⟨by kernel_rfl, rfl⟩ (allC ⟨by kernel_rfl, rfl⟩ (allC ⟨by kernel_rfl, rfl⟩ allN)))))))))))))))))))))))))⟩
theorem mixed : Tryd.prog.follows .mixedOrders = true := by kernel_rfl
end Go.Proofs.YtgphlcdinejmdaaDoor

/- The beginnings: bounds, readers of drawn numbers. -/
namespace Go.Proofs.YtgphlcdinejmdaaDoor
set_option linter.unusedVariables false
set_option linter.unusedSimpArgs false
set_option maxRecDepth 20000
open Go.RowKit
attribute [local irreducible] runA runX AW
theorem gq_ZA {H G : Prop} (k : H) (h : Hid H → G := by (intro hh; (first | (first | ((first | refine r_none ?_ | refine r_gt (by rfl) (by rfl) (by first | rfl | assumption | omega | (simp only [*, Bool.not_false, Bool.not_true]; first | done | fail) | (simp [*]; first | done | fail)) (by rfl) ?_ | refine r_gf (by rfl) (by rfl) (by first | rfl | assumption | omega | (simp only [*, Bool.not_false, Bool.not_true]; first | done | fail) | (simp [*]; first | done | fail)) (by rfl) ?_); (first | fail | ((first | (refine z_op (by rfl) ?_; first | refine z_ok ?_ ?_ | refine z_ex ?_ (by first | exact ft_raw rfl rfl | ((first | refine ft_rp rfl rfl rfl ?_ | refine ft_row rfl rfl rfl ?_ | refine ft_rpF rfl rfl rfl ?_ | refine ft_rowF rfl rfl rfl ?_ | refine up_row rfl rfl ?_ | refine up_rowF rfl rfl rfl ?_ | refine ct_0 rfl ?_ | refine ct_r rfl rfl ?_ | refine ct_c rfl rfl rfl ?_ | refine cu_all rfl ?_ | refine cu_to rfl ?_ | refine cu_from rfl ?_ | refine cu_p rfl ?_ | refine mk_0 Int rfl rfl ?_ | refine mk_c Int rfl rfl rfl ?_ | refine mk_c Bool rfl rfl rfl ?_); (first | omega | (simp only [List.length_append, List.length_replicate, List.length_cons, List.length_nil, List.length_set, List.length_take, List.length_drop, true_and]; omega))) | exact up_raw rfl | exact pk_t (by first | rfl | assumption | omega | (simp only [*, Bool.not_false, Bool.not_true]; first | done | fail) | (simp [*]; first | done | fail)) rfl | exact pk_f (by first | rfl | assumption | omega | (simp only [*, Bool.not_false, Bool.not_true]; first | done | fail) | (simp [*]; first | done | fail)) rfl | exact rw_c Int rfl | exact rw_c Bool rfl | exact rw_raw | exact pu_cv (fun w => rfl) (by omega) | exact pu_of (fun w => rfl) rfl | exact be_of (fun w => rfl) | exact nc_of (fun _ _ _ _ => rfl) rfl | exact bu_of (fun w => rfl) rfl | fail) ?_) | ((first | refine q_callE wsT wsZ (by rfl) ?_ | refine q_callVE wsT (by rfl) (by rfl) ?_); refine ⟨_, _, _, (by first | exact k_within _ _ _ | exact k_l1In _ _ _ | exact k_okL _ | exact k_wv _ _ | assumption), _, by rfl, ?_, ?_⟩)); focus (first | exact trivial | fail | exact rfl | (first | omega | (simp only [List.length_append, List.length_replicate, List.length_cons, List.length_nil, List.length_set, List.length_take, List.length_drop, true_and]; omega)) | exact cvB (fun w => rfl) | ((repeat' (first | exact rfl | exact cV_len _ | exact cV_ln rfl (by omega) | exact Cel.pos | omega | exact trivial | refine And.intro ?_ ?_)); done) | (simp [*]; done) | (simp; omega))) | fail)) | refine r_nt (by rfl) (by rfl) (by first | rfl | assumption | omega | (simp only [*, Bool.not_false, Bool.not_true]; first | done | fail) | (simp [*]; first | done | fail)) (by rfl) ?_ | refine r_nf (by rfl) (by rfl) (by first | rfl | assumption | omega | (simp only [*, Bool.not_false, Bool.not_true]; first | done | fail) | (simp [*]; first | done | fail)) (by rfl) ?_ | refine r_gu (by rfl) (by rfl) (by rfl) ?_ | refine r_nil ?_) | (first | refine aw_seq ?_ | refine aw_ct (by rfl) (by first | rfl | assumption | omega | (simp only [*, Bool.not_false, Bool.not_true]; first | done | fail) | (simp [*]; first | done | fail)) ?_ | refine aw_cf (by rfl) (by first | rfl | assumption | omega | (simp only [*, Bool.not_false, Bool.not_true]; first | done | fail) | (simp [*]; first | done | fail)) ?_ | refine aw_block ?_ | refine aw_region T0ok cfU_ok (by rfl) ?_ | refine aw_skip ?_ | refine aw_exit ?_ | refine ra_step ?_)); (repeat (first | (first | ((first | refine r_none ?_ | refine r_gt (by rfl) (by rfl) (by first | rfl | assumption | omega | (simp only [*, Bool.not_false, Bool.not_true]; first | done | fail) | (simp [*]; first | done | fail)) (by rfl) ?_ | refine r_gf (by rfl) (by rfl) (by first | rfl | assumption | omega | (simp only [*, Bool.not_false, Bool.not_true]; first | done | fail) | (simp [*]; first | done | fail)) (by rfl) ?_); (first | fail | ((first | (refine z_op (by rfl) ?_; first | refine z_ok ?_ ?_ | refine z_ex ?_ (by first | exact ft_raw rfl rfl | ((first | refine ft_rp rfl rfl rfl ?_ | refine ft_row rfl rfl rfl ?_ | refine ft_rpF rfl rfl rfl ?_ | refine ft_rowF rfl rfl rfl ?_ | refine up_row rfl rfl ?_ | refine up_rowF rfl rfl rfl ?_ | refine ct_0 rfl ?_ | refine ct_r rfl rfl ?_ | refine ct_c rfl rfl rfl ?_ | refine cu_all rfl ?_ | refine cu_to rfl ?_ | refine cu_from rfl ?_ | refine cu_p rfl ?_ | refine mk_0 Int rfl rfl ?_ | refine mk_c Int rfl rfl rfl ?_ | refine mk_c Bool rfl rfl rfl ?_); (first | omega | (simp only [List.length_append, List.length_replicate, List.length_cons, List.length_nil, List.length_set, List.length_take, List.length_drop, true_and]; omega))) | exact up_raw rfl | exact pk_t (by first | rfl | assumption | omega | (simp only [*, Bool.not_false, Bool.not_true]; first | done | fail) | (simp [*]; first | done | fail)) rfl | exact pk_f (by first | rfl | assumption | omega | (simp only [*, Bool.not_false, Bool.not_true]; first | done | fail) | (simp [*]; first | done | fail)) rfl | exact rw_c Int rfl | exact rw_c Bool rfl | exact rw_raw | exact pu_cv (fun w => rfl) (by omega) | exact pu_of (fun w => rfl) rfl | exact be_of (fun w => rfl) | exact nc_of (fun _ _ _ _ => rfl) rfl | exact bu_of (fun w => rfl) rfl | fail) ?_) | ((first | refine q_callE wsT wsZ (by rfl) ?_ | refine q_callVE wsT (by rfl) (by rfl) ?_); refine ⟨_, _, _, (by first | exact k_within _ _ _ | exact k_l1In _ _ _ | exact k_okL _ | exact k_wv _ _ | assumption), _, by rfl, ?_, ?_⟩)); focus (first | exact trivial | fail | exact rfl | (first | omega | (simp only [List.length_append, List.length_replicate, List.length_cons, List.length_nil, List.length_set, List.length_take, List.length_drop, true_and]; omega)) | exact cvB (fun w => rfl) | ((repeat' (first | exact rfl | exact cV_len _ | exact cV_ln rfl (by omega) | exact Cel.pos | omega | exact trivial | refine And.intro ?_ ?_)); done) | (simp [*]; done) | (simp; omega))) | fail)) | refine r_nt (by rfl) (by rfl) (by first | rfl | assumption | omega | (simp only [*, Bool.not_false, Bool.not_true]; first | done | fail) | (simp [*]; first | done | fail)) (by rfl) ?_ | refine r_nf (by rfl) (by rfl) (by first | rfl | assumption | omega | (simp only [*, Bool.not_false, Bool.not_true]; first | done | fail) | (simp [*]; first | done | fail)) (by rfl) ?_ | refine r_gu (by rfl) (by rfl) (by rfl) ?_ | refine r_nil ?_) | (first | refine aw_seq ?_ | refine aw_ct (by rfl) (by first | rfl | assumption | omega | (simp only [*, Bool.not_false, Bool.not_true]; first | done | fail) | (simp [*]; first | done | fail)) ?_ | refine aw_cf (by rfl) (by first | rfl | assumption | omega | (simp only [*, Bool.not_false, Bool.not_true]; first | done | fail) | (simp [*]; first | done | fail)) ?_ | refine aw_block ?_ | refine aw_region T0ok cfU_ok (by rfl) ?_ | refine aw_skip ?_ | refine aw_exit ?_ | refine ra_step ?_))); exact hh.out)) : G := h ⟨k⟩
theorem ga_ZA {H G : Prop} (k : H) (h : Hid H → G := by (intro hh; (first | refine r_none ?_ | refine r_gt (by rfl) (by rfl) (by first | rfl | assumption | omega | (simp only [*, Bool.not_false, Bool.not_true]; first | done | fail) | (simp [*]; first | done | fail)) (by rfl) ?_ | refine r_gf (by rfl) (by rfl) (by first | rfl | assumption | omega | (simp only [*, Bool.not_false, Bool.not_true]; first | done | fail) | (simp [*]; first | done | fail)) (by rfl) ?_); refine z_op (by rfl) ?_; refine z_al ?_ hh.out; focus (first | exact trivial | fail | exact rfl | (first | omega | (simp only [List.length_append, List.length_replicate, List.length_cons, List.length_nil, List.length_set, List.length_take, List.length_drop, true_and]; omega)) | exact cvB (fun w => rfl) | ((repeat' (first | exact rfl | exact cV_len _ | exact cV_ln rfl (by omega) | exact Cel.pos | omega | exact trivial | refine And.intro ?_ ?_)); done) | (simp [*]; done) | (simp; omega)))) : G := h ⟨k⟩
def wsT : WsT := [




























































  (999999, ([], false))]
def wsZ : List (Nat × Nat) := [

























































  (999999, 0)]
def btw (n a b : Int) : Bool := decide (n ≥ a) && decide (n ≤ b)
theorem btw_t {n a b : Int} (h : btw n a b = true) : a ≤ n ∧ n ≤ b := by simpa [btw] using h
theorem btw_f {n a b : Int} (h : btw n a b = false) : ¬ (a ≤ n ∧ n ≤ b) := by intro ⟨h1, h2⟩; simp [btw, h1, h2] at h
theorem k_within (n a b : Int) : Kon Tryd.prog 27 [vI n, vI a, vI b] [] (vB (btw n a b)) [] [] := by
  (refine kon_mk T0ok (fn := Tryd.f27) (c := Tryd.f27.body.get rfl) Tryd.func27 rfl (by rfl) (by rfl) (by rfl) ?_; intro hfit hfe)
  unfold btw
  cases h1 : decide (n ≥ a)
  all_goals ((repeat (first | refine gq_ZA ?_ | (refine ga_ZA ?_; intro _q ⟨_he, _hq⟩))); ((try refine aw_ret ?_); refine ret_auto2 (by rfl) (by rfl) (by rfl) (by repeat (first | exact trivial | refine ⟨by first | rfl | omega, ?_⟩)) ?_ (by repeat (first | exact trivial | refine ⟨by rfl, by rfl, ?_⟩)) (by repeat (first | exact trivial | refine ⟨by rfl, by rfl, ?_⟩)); try rfl))

theorem k_l1In (n a b : Int) : Kon Tryd.prog 24 [vI n, vI a, vI b] [] (vB (btw n a b)) [] [] := by
  (refine kon_mk T0ok (fn := Tryd.f24) (c := Tryd.f24.body.get rfl) Tryd.func24 rfl (by rfl) (by rfl) (by rfl) ?_; intro hfit hfe)
  unfold btw
  cases h1 : decide (n ≥ a)
  all_goals ((repeat (first | refine gq_ZA ?_ | (refine ga_ZA ?_; intro _q ⟨_he, _hq⟩))); ((try refine aw_ret ?_); refine ret_auto2 (by rfl) (by rfl) (by rfl) (by repeat (first | exact trivial | refine ⟨by first | rfl | omega, ?_⟩)) ?_ (by repeat (first | exact trivial | refine ⟨by rfl, by rfl, ?_⟩)) (by repeat (first | exact trivial | refine ⟨by rfl, by rfl, ?_⟩)); try rfl))


theorem k_okL (n : Int) : Kon Tryd.prog 57 [vI n] [] (vB (btw n 1 8)) [] [] := by
  (refine kon_mk T0ok (fn := Tryd.f57) (c := Tryd.f57.body.get rfl) Tryd.func57 rfl (by rfl) (by rfl) (by rfl) ?_; intro hfit hfe)
  (repeat (first | refine gq_ZA ?_ | (refine ga_ZA ?_; intro _q ⟨_he, _hq⟩)))
  ((try refine aw_ret ?_); refine ret_auto2 (by rfl) (by rfl) (by rfl) (by repeat (first | exact trivial | refine ⟨by first | rfl | omega, ?_⟩)) ?_ (by repeat (first | exact trivial | refine ⟨by rfl, by rfl, ?_⟩)) (by repeat (first | exact trivial | refine ⟨by rfl, by rfl, ?_⟩)); try rfl)



















































































end Go.Proofs.YtgphlcdinejmdaaDoor

/- Contracts of Go's library at this program. -/
namespace Go.Proofs.YtgphlcdinejmdaaDoor
set_option linter.unusedVariables false
open Go.Shelf Go.RowKit Go.Lib
def Tryd.lays156_ren : Go.Shelf.Ren := ⟨fun | 156 => 48 | 165 => 58 | 166 => 37 | 169 => 39 | 240 => 54 | 241 => 71 | 276 => 66 | 277 => 87 | n => n, fun | 31 => 49 | 9 => 9 | 3 => 3 | 4 => 4 | 0 => 0 | 20 => 20 | 72 => 66 | 76 => 60 | 70 => 63 | 37 => 64 | 75 => 59 | 127 => 85 | 164 => 99 | 5 => 5 | 80 => 68 | n => n, fun | n => n⟩
theorem Tryd.lays156 : Go.Proofs.Lays.n156 Tryd.prog Tryd.lays156_ren := {
  mixed := by kernel_rfl
  f156 := Tryd.func48.trans (congrArg some (by kernel_rfl))
  f165 := Tryd.func58.trans (congrArg some (by kernel_rfl))
  f166 := Tryd.func37.trans (congrArg some (by kernel_rfl))
  f169 := Tryd.func39.trans (congrArg some (by kernel_rfl))
  f240 := Tryd.func54.trans (congrArg some (by kernel_rfl))
  f241 := Tryd.func71.trans (congrArg some (by kernel_rfl))
  f276 := Tryd.func66.trans (congrArg some (by kernel_rfl))
  f277 := Tryd.func87.trans (congrArg some (by kernel_rfl))
  t0 := Tryd.underlying0
  a0 := Tryd.isAgg0
  z0 := Tryd.sizeOf0
  v0 := Tryd.zeroValue0
  t3 := Tryd.underlying3
  a3 := Tryd.isAgg3
  z3 := Tryd.sizeOf3
  v3 := Tryd.zeroValue3
  t4 := Tryd.underlying4
  a4 := Tryd.isAgg4
  z4 := Tryd.sizeOf4
  v4 := Tryd.zeroValue4
  t9 := Tryd.underlying9
  a9 := Tryd.isAgg9
  z9 := Tryd.sizeOf9
  v9 := Tryd.zeroValue9
  t20 := Tryd.underlying20
  a20 := Tryd.isAgg20
  z20 := Tryd.sizeOf20
  v20 := Tryd.zeroValue20
  t31 := Tryd.underlying49
  a31 := Tryd.isAgg49
  z31 := Tryd.sizeOf49
  v31 := Tryd.zeroValue49
  t37 := Tryd.underlying64
  a37 := Tryd.isAgg64
  z37 := Tryd.sizeOf64
  v37 := Tryd.zeroValue64
  t70 := Tryd.underlying63
  a70 := Tryd.isAgg63
  z70 := Tryd.sizeOf63
  v70 := Tryd.zeroValue63
  t72 := Tryd.underlying66
  a72 := Tryd.isAgg66
  z72 := Tryd.sizeOf66
  v72 := Tryd.zeroValue66
  t75 := Tryd.underlying59
  a75 := Tryd.isAgg59
  z75 := Tryd.sizeOf59
  v75 := Tryd.zeroValue59
  t76 := Tryd.underlying60
  a76 := Tryd.isAgg60
  z76 := Tryd.sizeOf60
  v76 := Tryd.zeroValue60
  t127 := Tryd.underlying85
  a127 := Tryd.isAgg85
  z127 := Tryd.sizeOf85
  v127 := Tryd.zeroValue85
  t164 := Tryd.underlying99
  a164 := Tryd.isAgg99
  z164 := Tryd.sizeOf99
  v164 := Tryd.zeroValue99 }
theorem Tryd.Builder_Extra_156 : Builder.Extra Tryd.prog Tryd.lays156_ren := {
  sizeBuilder := by kernel_rfl
  liesBuilder := by kernel_rfl
  t5 := Tryd.underlying5
  a5 := Tryd.isAgg5
  z5 := Tryd.sizeOf5
  v5 := Tryd.zeroValue5
  infoByte := by kernel_rfl
  cellsByte := by kernel_rfl
  sizeByte := by kernel_rfl
  neB5 := by decide }
theorem Tryd.strings_Join_none (a : Option Addr) (c : Nat) (sep : ByteArray) (w : World) :
    Calls Tryd.prog 48 #[.slice a 0 c, .string sep] w fun e w' => e = .returned (.string ⟨#[]⟩) ∧ w' = w := Any.strings_Join_none Tryd.lays156 Tryd.Builder_Extra_156 a c sep w
theorem Tryd.strings_Join (bk o c : Nat) (xs : List ByteArray) (sep : ByteArray) (w : World) (hcells : ∀ (j : Nat) x, xs[j]? = some x → w.cell? ⟨bk, o + j, none⟩ = some (.string x)) (hbk : bk < w.heap.size) (hN : xs.length ≤ 140737488355328) (hcap : xs.length ≤ c) (hlen : (Lib.join (xs.map (·.data.toList)) sep.data.toList).length ≤ 140737488355328) :
    Calls Tryd.prog 48 #[.slice (some ⟨bk, o, none⟩) xs.length c, .string sep] w fun e w' => e = .returned (.string ⟨(Lib.join (xs.map (·.data.toList)) sep.data.toList).toArray⟩) ∧ Below w.heap.size w w' := Any.strings_Join Tryd.lays156 Tryd.Builder_Extra_156 bk o c xs sep w hcells hbk hN hcap hlen
def Tryd.lays171_ren : Go.Shelf.Ren := ⟨fun | 171 => 28 | 243 => 44 | 246 => 56 | 283 => 67 | 284 => 68 | 285 => 69 | 286 => 70 | 129 => 83 | 317 => 82 | 318 => 84 | 319 => 85 | 320 => 86 | 337 => 95 | 338 => 96 | n => n, fun | 3 => 3 | 9 => 9 | 2 => 2 | 4 => 4 | 171 => 101 | 0 => 0 | 53 => 102 | 37 => 64 | 5 => 5 | 173 => 105 | 212 => 118 | 51 => 119 | 20 => 20 | 213 => 120 | 46 => 109 | 232 => 132 | 233 => 133 | n => n, fun | 17 => 3 | 18 => 4 | 19 => 5 | n => n⟩
theorem Tryd.lays171 : Go.Proofs.Lays.n171 Tryd.prog Tryd.lays171_ren := {
  mixed := by kernel_rfl
  f129 := Tryd.func83.trans (congrArg some (by kernel_rfl))
  f171 := Tryd.func28.trans (congrArg some (by kernel_rfl))
  f243 := Tryd.func44.trans (congrArg some (by kernel_rfl))
  f246 := Tryd.func56.trans (congrArg some (by kernel_rfl))
  f283 := Tryd.func67.trans (congrArg some (by kernel_rfl))
  f284 := Tryd.func68.trans (congrArg some (by kernel_rfl))
  f285 := Tryd.func69.trans (congrArg some (by kernel_rfl))
  f286 := Tryd.func70.trans (congrArg some (by kernel_rfl))
  f317 := Tryd.func82.trans (congrArg some (by kernel_rfl))
  f318 := Tryd.func84.trans (congrArg some (by kernel_rfl))
  f319 := Tryd.func85.trans (congrArg some (by kernel_rfl))
  f320 := Tryd.func86.trans (congrArg some (by kernel_rfl))
  f337 := Tryd.func95.trans (congrArg some (by kernel_rfl))
  f338 := Tryd.func96.trans (congrArg some (by kernel_rfl))
  t0 := Tryd.underlying0
  a0 := Tryd.isAgg0
  z0 := Tryd.sizeOf0
  v0 := Tryd.zeroValue0
  t2 := Tryd.underlying2
  a2 := Tryd.isAgg2
  z2 := Tryd.sizeOf2
  v2 := Tryd.zeroValue2
  t3 := Tryd.underlying3
  a3 := Tryd.isAgg3
  z3 := Tryd.sizeOf3
  v3 := Tryd.zeroValue3
  t4 := Tryd.underlying4
  a4 := Tryd.isAgg4
  z4 := Tryd.sizeOf4
  v4 := Tryd.zeroValue4
  t5 := Tryd.underlying5
  a5 := Tryd.isAgg5
  z5 := Tryd.sizeOf5
  v5 := Tryd.zeroValue5
  t9 := Tryd.underlying9
  a9 := Tryd.isAgg9
  z9 := Tryd.sizeOf9
  v9 := Tryd.zeroValue9
  t20 := Tryd.underlying20
  a20 := Tryd.isAgg20
  z20 := Tryd.sizeOf20
  v20 := Tryd.zeroValue20
  t37 := Tryd.underlying64
  a37 := Tryd.isAgg64
  z37 := Tryd.sizeOf64
  v37 := Tryd.zeroValue64
  t46 := Tryd.underlying109
  a46 := Tryd.isAgg109
  z46 := Tryd.sizeOf109
  v46 := Tryd.zeroValue109
  t51 := Tryd.underlying119
  a51 := Tryd.isAgg119
  z51 := Tryd.sizeOf119
  v51 := Tryd.zeroValue119
  t53 := Tryd.underlying102
  a53 := Tryd.isAgg102
  z53 := Tryd.sizeOf102
  v53 := Tryd.zeroValue102
  t171 := Tryd.underlying101
  a171 := Tryd.isAgg101
  z171 := Tryd.sizeOf101
  v171 := Tryd.zeroValue101
  t173 := Tryd.underlying105
  a173 := Tryd.isAgg105
  z173 := Tryd.sizeOf105
  v173 := Tryd.zeroValue105
  t212 := Tryd.underlying118
  a212 := Tryd.isAgg118
  z212 := Tryd.sizeOf118
  v212 := Tryd.zeroValue118
  t213 := Tryd.underlying120
  a213 := Tryd.isAgg120
  z213 := Tryd.sizeOf120
  t232 := Tryd.underlying132
  a232 := Tryd.isAgg132
  z232 := Tryd.sizeOf132
  v232 := Tryd.zeroValue132
  t233 := Tryd.underlying133
  a233 := Tryd.isAgg133
  z233 := Tryd.sizeOf133
  v233 := Tryd.zeroValue133
  g17 := by kernel_rfl
  g18 := by kernel_rfl
  g19 := by kernel_rfl }
theorem Tryd.strconv_Itoa_small (i : Nat) (hi : i < 100) (w : World) :
    Calls Tryd.prog 28 #[.int .i64 i] w fun e w' => e = .returned (.string ⟨(Lib.decDigits i).toArray⟩) ∧ w' = w := Any.strconv_Itoa_small Tryd.lays171 i hi w
end Go.Proofs.YtgphlcdinejmdaaDoor

/- Numbers as texts, texts joined: both sides. -/
namespace Go.Proofs.YtgphlcdinejmdaaDoor
set_option linter.unusedVariables false
set_option linter.unusedSimpArgs false
set_option maxRecDepth 20000
open Go.RowKit
attribute [local irreducible] runA runX AW
theorem gq_DN {H G : Prop} (k : H) (h : Hid H → G := by (intro hh; (first | (first | ((first | refine r_none ?_ | refine r_gt (by rfl) (by rfl) (by first | rfl | assumption | omega | (simp only [*, Bool.not_false, Bool.not_true]; first | done | fail) | (simp [*]; first | done | fail)) (by rfl) ?_ | refine r_gf (by rfl) (by rfl) (by first | rfl | assumption | omega | (simp only [*, Bool.not_false, Bool.not_true]; first | done | fail) | (simp [*]; first | done | fail)) (by rfl) ?_); (first | (first | refine r_seq (by rfl) (by rfl) (by rfl) ?_ | refine r_sne (by rfl) (by rfl) (by rfl) ?_ | refine r_sadd (by rfl) (by rfl) (by first | omega | (simp only [List.length_append, List.length_cons, List.length_nil]; omega)) (by rfl) ?_ | refine r_i2b (by rfl) (fun w => by rfl) (by omega) (by rfl) ?_ | refine r_bstr1 (by rfl) (by rfl) (by rfl) (by rfl) Tryd.underlying64 Tryd.underlying5 Tryd.underlying9 (by exact ⟨rfl, rfl, Nat.zero_lt_one, rfl⟩) (by rfl) ?_) | ((first | (refine z_op (by rfl) ?_; first | refine z_ok ?_ ?_ | refine z_ex ?_ (by first | exact ft_raw rfl rfl | ((first | refine ft_rp rfl rfl rfl ?_ | refine ft_row rfl rfl rfl ?_ | refine ft_rpF rfl rfl rfl ?_ | refine ft_rowF rfl rfl rfl ?_ | refine up_row rfl rfl ?_ | refine up_rowF rfl rfl rfl ?_ | refine ct_0 rfl ?_ | refine ct_r rfl rfl ?_ | refine ct_c rfl rfl rfl ?_ | refine cu_all rfl ?_ | refine cu_to rfl ?_ | refine cu_from rfl ?_ | refine cu_p rfl ?_ | fail); (first | omega | (simp only [List.length_append, List.length_replicate, List.length_cons, List.length_nil, List.length_set, List.length_take, List.length_drop, true_and]; omega))) | exact up_raw rfl | exact pk_t (by first | rfl | assumption | omega | (simp only [*, Bool.not_false, Bool.not_true]; first | done | fail) | (simp [*]; first | done | fail)) rfl | exact pk_f (by first | rfl | assumption | omega | (simp only [*, Bool.not_false, Bool.not_true]; first | done | fail) | (simp [*]; first | done | fail)) rfl | (first | exact rw_c UInt8 rfl | exact rw_c (List UInt8) rfl) | exact rw_raw | exact pu_cv (fun w => rfl) (by omega) | exact pu_of (fun w => rfl) rfl | exact be_of (fun w => rfl) | exact nc_of (fun _ _ _ _ => rfl) rfl | exact bu_of (fun w => rfl) rfl | fail) ?_) | ((first | refine q_callE wsT wsZ (by rfl) ?_ | refine q_callVE wsT (by rfl) (by rfl) ?_); refine ⟨_, _, _, (by first | assumption), _, by rfl, ?_, ?_⟩)); focus (first | exact trivial | fail | exact rfl | (first | omega | (simp only [List.length_append, List.length_replicate, List.length_cons, List.length_nil, List.length_set, List.length_take, List.length_drop, true_and]; omega)) | exact cvB (fun w => rfl) | ((repeat' (first | exact rfl | exact cV_len _ | exact cV_ln rfl (by omega) | exact Cel.pos | omega | exact trivial | refine And.intro ?_ ?_)); done) | (simp [*]; done) | (simp; omega))) | fail)) | refine r_nt (by rfl) (by rfl) (by first | rfl | assumption | omega | (simp only [*, Bool.not_false, Bool.not_true]; first | done | fail) | (simp [*]; first | done | fail)) (by rfl) ?_ | refine r_nf (by rfl) (by rfl) (by first | rfl | assumption | omega | (simp only [*, Bool.not_false, Bool.not_true]; first | done | fail) | (simp [*]; first | done | fail)) (by rfl) ?_ | refine r_gu (by rfl) (by rfl) (by rfl) ?_ | refine r_nil ?_) | (first | refine aw_seq ?_ | refine aw_ct (by rfl) (by first | rfl | assumption | omega | (simp only [*, Bool.not_false, Bool.not_true]; first | done | fail) | (simp [*]; first | done | fail)) ?_ | refine aw_cf (by rfl) (by first | rfl | assumption | omega | (simp only [*, Bool.not_false, Bool.not_true]; first | done | fail) | (simp [*]; first | done | fail)) ?_ | refine aw_block ?_ | refine aw_region T0ok cfU_ok (by rfl) ?_ | refine aw_skip ?_ | refine aw_exit ?_ | refine ra_step ?_)); (repeat (first | (first | ((first | refine r_none ?_ | refine r_gt (by rfl) (by rfl) (by first | rfl | assumption | omega | (simp only [*, Bool.not_false, Bool.not_true]; first | done | fail) | (simp [*]; first | done | fail)) (by rfl) ?_ | refine r_gf (by rfl) (by rfl) (by first | rfl | assumption | omega | (simp only [*, Bool.not_false, Bool.not_true]; first | done | fail) | (simp [*]; first | done | fail)) (by rfl) ?_); (first | (first | refine r_seq (by rfl) (by rfl) (by rfl) ?_ | refine r_sne (by rfl) (by rfl) (by rfl) ?_ | refine r_sadd (by rfl) (by rfl) (by first | omega | (simp only [List.length_append, List.length_cons, List.length_nil]; omega)) (by rfl) ?_ | refine r_i2b (by rfl) (fun w => by rfl) (by omega) (by rfl) ?_ | refine r_bstr1 (by rfl) (by rfl) (by rfl) (by rfl) Tryd.underlying64 Tryd.underlying5 Tryd.underlying9 (by exact ⟨rfl, rfl, Nat.zero_lt_one, rfl⟩) (by rfl) ?_) | ((first | (refine z_op (by rfl) ?_; first | refine z_ok ?_ ?_ | refine z_ex ?_ (by first | exact ft_raw rfl rfl | ((first | refine ft_rp rfl rfl rfl ?_ | refine ft_row rfl rfl rfl ?_ | refine ft_rpF rfl rfl rfl ?_ | refine ft_rowF rfl rfl rfl ?_ | refine up_row rfl rfl ?_ | refine up_rowF rfl rfl rfl ?_ | refine ct_0 rfl ?_ | refine ct_r rfl rfl ?_ | refine ct_c rfl rfl rfl ?_ | refine cu_all rfl ?_ | refine cu_to rfl ?_ | refine cu_from rfl ?_ | refine cu_p rfl ?_ | fail); (first | omega | (simp only [List.length_append, List.length_replicate, List.length_cons, List.length_nil, List.length_set, List.length_take, List.length_drop, true_and]; omega))) | exact up_raw rfl | exact pk_t (by first | rfl | assumption | omega | (simp only [*, Bool.not_false, Bool.not_true]; first | done | fail) | (simp [*]; first | done | fail)) rfl | exact pk_f (by first | rfl | assumption | omega | (simp only [*, Bool.not_false, Bool.not_true]; first | done | fail) | (simp [*]; first | done | fail)) rfl | (first | exact rw_c UInt8 rfl | exact rw_c (List UInt8) rfl) | exact rw_raw | exact pu_cv (fun w => rfl) (by omega) | exact pu_of (fun w => rfl) rfl | exact be_of (fun w => rfl) | exact nc_of (fun _ _ _ _ => rfl) rfl | exact bu_of (fun w => rfl) rfl | fail) ?_) | ((first | refine q_callE wsT wsZ (by rfl) ?_ | refine q_callVE wsT (by rfl) (by rfl) ?_); refine ⟨_, _, _, (by first | assumption), _, by rfl, ?_, ?_⟩)); focus (first | exact trivial | fail | exact rfl | (first | omega | (simp only [List.length_append, List.length_replicate, List.length_cons, List.length_nil, List.length_set, List.length_take, List.length_drop, true_and]; omega)) | exact cvB (fun w => rfl) | ((repeat' (first | exact rfl | exact cV_len _ | exact cV_ln rfl (by omega) | exact Cel.pos | omega | exact trivial | refine And.intro ?_ ?_)); done) | (simp [*]; done) | (simp; omega))) | fail)) | refine r_nt (by rfl) (by rfl) (by first | rfl | assumption | omega | (simp only [*, Bool.not_false, Bool.not_true]; first | done | fail) | (simp [*]; first | done | fail)) (by rfl) ?_ | refine r_nf (by rfl) (by rfl) (by first | rfl | assumption | omega | (simp only [*, Bool.not_false, Bool.not_true]; first | done | fail) | (simp [*]; first | done | fail)) (by rfl) ?_ | refine r_gu (by rfl) (by rfl) (by rfl) ?_ | refine r_nil ?_) | (first | refine aw_seq ?_ | refine aw_ct (by rfl) (by first | rfl | assumption | omega | (simp only [*, Bool.not_false, Bool.not_true]; first | done | fail) | (simp [*]; first | done | fail)) ?_ | refine aw_cf (by rfl) (by first | rfl | assumption | omega | (simp only [*, Bool.not_false, Bool.not_true]; first | done | fail) | (simp [*]; first | done | fail)) ?_ | refine aw_block ?_ | refine aw_region T0ok cfU_ok (by rfl) ?_ | refine aw_skip ?_ | refine aw_exit ?_ | refine ra_step ?_))); exact hh.out)) : G := h ⟨k⟩
theorem ga_DN {H G : Prop} (k : H) (h : Hid H → G := by (intro hh; (first | refine r_none ?_ | refine r_gt (by rfl) (by rfl) (by first | rfl | assumption | omega | (simp only [*, Bool.not_false, Bool.not_true]; first | done | fail) | (simp [*]; first | done | fail)) (by rfl) ?_ | refine r_gf (by rfl) (by rfl) (by first | rfl | assumption | omega | (simp only [*, Bool.not_false, Bool.not_true]; first | done | fail) | (simp [*]; first | done | fail)) (by rfl) ?_); refine z_op (by rfl) ?_; refine z_alV ?_ hh.out; focus (first | exact trivial | fail | exact rfl | (first | omega | (simp only [List.length_append, List.length_replicate, List.length_cons, List.length_nil, List.length_set, List.length_take, List.length_drop, true_and]; omega)) | exact cvB (fun w => rfl) | ((repeat' (first | exact rfl | exact cV_len _ | exact cV_ln rfl (by omega) | exact Cel.pos | omega | exact trivial | refine And.intro ?_ ?_)); done) | (simp [*]; done) | (simp; omega)))) : G := h ⟨k⟩
theorem gd_DN {H G : Prop} (k : H) (h : Hid H → G := by (intro hh; (refine aw_draw mixed T0ok cfU_ok [] (by rfl) (by kernel_rfl) ?_); exact hh.out)) : G := h ⟨k⟩
open Go.Lib (decDigits) in
theorem k_num1 (n : Int) (h : 0 ≤ n ∧ n < 10) : Kon Tryd.prog 25 [vI n] [] (vS (decDigits n.toNat)) [] [] := by
  have hd1 : decide (n < 0) = false := decide_eq_false (by omega)
  have hd2 : decide (n < 10) = true := decide_eq_true (by omega)
  have e : decDigits n.toNat = [UInt8.ofNat (48 + n).toNat] := by
    rw [Go.Lib.decDigits_one (by omega)]
    congr 2; omega
  rw [e]
  (refine kon_mk T0ok (fn := Tryd.f25) (c := Tryd.f25.body.get rfl) Tryd.func25 rfl (by rfl) (by rfl) (by rfl) ?_; intro hfit hfe)
  (repeat (first | refine gq_DN ?_ | (refine ga_DN ?_; intro _hq)))
  ((try refine aw_ret ?_); refine ret_auto2 (by rfl) (by rfl) (by rfl) (by repeat (first | exact trivial | refine ⟨by first | rfl | omega, ?_⟩)) ?_ (by repeat (first | exact trivial | refine ⟨by rfl, by rfl, ?_⟩)) (by repeat (first | exact trivial | refine ⟨by rfl, by rfl, ?_⟩)); try rfl)
open Go.Lib (decDigits) in
theorem k_num (n : Int) (h : 0 ≤ n ∧ n < 100) : Kon Tryd.prog 25 [vI n] [] (vS (decDigits n.toNat)) [] [] := by
  rcases Int.lt_or_le n 10 with h1 | h1
  · exact k_num1 n ⟨h.1, h1⟩
  have hd1 : decide (n < 0) = false := decide_eq_false (by omega)
  have hd2 : decide (n < 10) = false := decide_eq_false (by omega)
  have hK := k_num1 (n / 10) (by omega)
  have e : decDigits n.toNat = decDigits (n / 10).toNat ++ [UInt8.ofNat (48 + n % 10).toNat] := by
    rw [Go.Lib.decDigits, dif_neg (by omega)]
    congr 2
    · omega
    · congr 2; omega
  have hl : (decDigits (n / 10).toNat).length ≤ 20 := by
    rw [Go.Lib.decDigits_one (by omega)]; simp
  rw [e]
  (refine kon_mk T0ok (fn := Tryd.f25) (c := Tryd.f25.body.get rfl) Tryd.func25 rfl (by rfl) (by rfl) (by rfl) ?_; intro hfit hfe)
  (repeat (first | refine gq_DN ?_ | (refine ga_DN ?_; intro _hq)))
  (repeat (first | refine gq_DN ?_ | (refine ga_DN ?_; intro _hq) | refine gd_DN ?_))
  ((try refine aw_ret ?_); refine ret_auto2 (by rfl) (by rfl) (by rfl) (by repeat (first | exact trivial | refine ⟨by first | rfl | omega, ?_⟩)) ?_ (by repeat (first | exact trivial | refine ⟨by rfl, by rfl, ?_⟩)) (by repeat (first | exact trivial | refine ⟨by rfl, by rfl, ?_⟩)); try rfl)
open Go.Lib (decDigits) in
/-- strconv.Itoa at 0 to 99. -/
theorem k_itoa (n : Int) (h : 0 ≤ n ∧ n < 100) : Kon Tryd.prog 28 [vI n] [] (vS (decDigits n.toNat)) [] [] := by
  refine kon_pure (Go.Proofs.enters_of Tryd.func28 (by kernel_rfl) rfl) rfl rfl ?_
  intro w ok vs hg hok hsz hargs
  obtain ⟨z, hz, hr⟩ := hargs 0 _ rfl
  have hv : vs = #[.int .i64 n] := by
    obtain ⟨xs⟩ := vs
    match xs, hsz with
    | [y], _ =>
      cases hz
      rw [show y = .int .i64 n from hr.1]
  subst hv
  have hK := Tryd.strconv_Itoa_small n.toNat (by omega) w
  rw [show ((n.toNat : Nat) : Int) = n by omega] at hK
  refine hK.mono ?_
  rintro en W' ⟨rfl, rfl⟩
  exact ⟨_, rfl, Below.refl _ _, fun β G ok' => ⟨rfl, rfl⟩⟩
/-- strings.Join of texts that are only read. -/
theorem k_join (xs : List (List UInt8)) (sep : List UInt8) (hx : xs.length ≤ 1000000) (hl : (Go.Lib.join xs sep).length ≤ 1000000) : Kon Tryd.prog 48 [roA xs, vS sep] [] (vS (Go.Lib.join xs sep)) [] [] := by
  refine kon_pure (Go.Proofs.enters_of Tryd.func48 (by kernel_rfl) rfl) rfl rfl ?_
  intro w ok vs hg hok hsz hargs
  obtain ⟨z0, hz0, hr0⟩ := hargs 0 _ rfl
  obtain ⟨z1, hz1, hr1⟩ := hargs 1 _ rfl
  have hv : vs = #[z0, .string (str sep)] := by
    obtain ⟨xs⟩ := vs
    match xs, hsz with
    | [y, y'], _ =>
      cases hz0
      cases hz1
      rw [show y' = .string (str sep) from hr1.1]
      rfl
  subst hv
  have e : (xs.map str).map (·.data.toList) = xs := by
    rw [List.map_map]
    conv => rhs; rw [← List.map_id xs]
    apply List.map_congr_left
    intro a _
    simp [str]
  obtain ⟨⟨hlen, hone⟩, A, c, rfl, hnc, hc2, hcells⟩ := hr0
  rcases Nat.eq_zero_or_pos xs.length with h0 | h0
  · have hx0 : xs = [] := List.eq_nil_of_length_eq_zero h0
    subst hx0
    refine (Tryd.strings_Join_none A c (str sep) w).mono ?_
    rintro en W' ⟨rfl, rfl⟩
    exact ⟨_, rfl, Below.refl _ _, fun β G ok' => ⟨rfl, rfl⟩⟩
  · obtain ⟨b, off, rfl, hb, hc⟩ := hcells h0
    have hcell : ∀ (j : Nat) x, (xs.map str)[j]? = some x → w.cell? ⟨b, off + j, none⟩ = some (.string x) := by
      intro j x hj
      have hjl : j < xs.length := by
        have := (List.getElem?_eq_some_iff.1 hj).1
        simpa using this
      have h2 := hc _ _ (cV_cell (l := xs) (j := j) (o := 0) hjl (v := .string (str (xs.getD j []))) rfl)
      rw [show j * Cel.sz (List UInt8) + 0 = j from Nat.mul_one j] at h2
      rw [h2]
      simp [hjl] at hj
      rw [← hj]
      simp [List.getD_eq_getElem?_getD, hjl]
    have hJ := Tryd.strings_Join b off c (xs.map str) (str sep) w hcell (hok b hb) (by simp; omega) (by simpa using hnc) (by rw [e]; simpa [str] using (show (Go.Lib.join xs sep).length ≤ 140737488355328 by omega))
    rw [e, show (str sep).data.toList = sep by simp [str]] at hJ
    rw [List.length_map] at hJ
    refine hJ.mono ?_
    rintro en W' ⟨rfl, hB⟩
    exact ⟨_, rfl, hB, fun β G ok' => ⟨rfl, rfl⟩⟩
theorem join_2 (a b s : List UInt8) : Go.Lib.join [a, b] s = a ++ s ++ b := by
  rw [Go.Lib.join_cons]; simp [Go.Lib.joinTail]
theorem join_3 (a b c s : List UInt8) : Go.Lib.join [a, b, c] s = a ++ s ++ b ++ s ++ c := by
  rw [Go.Lib.join_cons]; simp [Go.Lib.joinTail]
theorem join_4 (a b c d s : List UInt8) : Go.Lib.join [a, b, c, d] s = a ++ s ++ b ++ s ++ c ++ s ++ d := by
  rw [Go.Lib.join_cons]; simp [Go.Lib.joinTail]
theorem k_jo (xs : List (List UInt8)) (r : List UInt8) (e : Go.Lib.join xs [32] = r) (hx : xs.length ≤ 10) (hr : r.length ≤ 1000) : Kon Tryd.prog 48 [roA xs, vS [32]] [] (vS r) [] [] := by
  subst e
  exact k_join xs [32] (by omega) (by omega)
end Go.Proofs.YtgphlcdinejmdaaDoor
