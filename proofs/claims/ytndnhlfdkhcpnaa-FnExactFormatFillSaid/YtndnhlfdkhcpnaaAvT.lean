import Derived.Test.YtndnhlfdkhcpnaaAvZ
import Derived.Test.YtndnhlfdkhcpnaaProg
import Derived.KernelRfl
namespace Go.Proofs
open Go Go.Av
def Try.tab : Tab :=
(.node (.node (.node (.node (.node (.node (.node .nil 2 ⟨1, 8, [.int .i64 0], [0], .int .i64⟩
  .nil) 3 ⟨1, 8, [.int .i64 0], [0], .int .i64⟩
  .nil) 4 ⟨1, 1, [.bool false], [0], .bool⟩
  (.node (.node .nil 5 ⟨1, 1, [.int .u8 0], [0], .int .u8⟩
  .nil) 6 ⟨1, 1, [.int .u8 0], [0], .int .u8⟩
  .nil)) 9 ⟨1, 16, [.string ⟨#[]⟩], [0], .str⟩
  (.node (.node (.node .nil 10 ⟨1, 16, [.string ⟨#[]⟩], [0], .str⟩
  .nil) 11 ⟨1, 16, [.string ⟨#[]⟩], [0], .str⟩
  .nil) 12 ⟨1, 8, [.int .u64 0], [0], .int .u64⟩
  (.node .nil 21 ⟨1, 4, [.int .i32 0], [0], .int .i32⟩
  .nil))) 22 ⟨3, 32, [.int .i64 0, .int .i64 0, .string ⟨#[]⟩], [0, 0, 0], .struct [(0, 3), (1, 3), (2, 9)]⟩
  (.node (.node (.node (.node .nil 23 ⟨3, 32, [.int .i64 0, .int .i64 0, .string ⟨#[]⟩], [0, 0, 0], .struct [(0, 3), (1, 3), (2, 9)]⟩
  .nil) 26 ⟨3, 32, [.int .i64 0, .int .i64 0, .string ⟨#[]⟩], [0, 0, 0], .struct [(0, 3), (1, 3), (2, 9)]⟩
  .nil) 29 ⟨1, 24, [.slice none 0 0], [4], .sl 99⟩
  (.node .nil 30 ⟨1, 24, [.slice none 0 0], [2], .sl 102⟩
  .nil)) 31 ⟨1, 24, [.slice none 0 0], [2], .sl 115⟩
  (.node (.node (.node .nil 32 ⟨6, 80, [.int .i64 0, .int .i64 0, .string ⟨#[]⟩, .string ⟨#[]⟩, .slice none 0 0, .int .i64 0], [0, 0, 0, 0, 2, 0], .struct [(0, 23), (3, 9), (4, 31), (5, 3)]⟩
  .nil) 33 ⟨6, 80, [.int .i64 0, .int .i64 0, .string ⟨#[]⟩, .string ⟨#[]⟩, .slice none 0 0, .int .i64 0], [0, 0, 0, 0, 2, 0], .struct [(0, 23), (3, 9), (4, 31), (5, 3)]⟩
  .nil) 34 ⟨1, 24, [.slice none 0 0], [10], .sl 108⟩
  (.node .nil 35 ⟨1, 24, [.slice none 0 0], [2], .sl 111⟩
  .nil)))) 36 ⟨1, 24, [.slice none 0 0], [5], .sl 117⟩
  (.node (.node (.node (.node (.node .nil 37 ⟨1, 24, [.slice none 0 0], [4], .sl 119⟩
  .nil) 38 ⟨13, 232, [.slice none 0 0, .slice none 0 0, .int .i64 0, .int .i64 0, .string ⟨#[]⟩, .string ⟨#[]⟩, .slice none 0 0, .int .i64 0, .slice none 0 0, .slice none 0 0, .slice none 0 0, .slice none 0 0, .int .i64 0], [4, 2, 0, 0, 0, 0, 2, 0, 10, 2, 5, 4, 0], .struct [(0, 29), (1, 30), (2, 33), (8, 34), (9, 35), (10, 36), (11, 37), (12, 3)]⟩
  .nil) 39 ⟨13, 232, [.slice none 0 0, .slice none 0 0, .int .i64 0, .int .i64 0, .string ⟨#[]⟩, .string ⟨#[]⟩, .slice none 0 0, .int .i64 0, .slice none 0 0, .slice none 0 0, .slice none 0 0, .slice none 0 0, .int .i64 0], [4, 2, 0, 0, 0, 0, 2, 0, 10, 2, 5, 4, 0], .struct [(0, 29), (1, 30), (2, 33), (8, 34), (9, 35), (10, 36), (11, 37), (12, 3)]⟩
  (.node .nil 42 ⟨1, 24, [.slice none 0 0], [4], .sl 120⟩
  .nil)) 43 ⟨1, 24, [.slice none 0 0], [2], .sl 122⟩
  (.node (.node (.node .nil 44 ⟨1, 24, [.slice none 0 0], [2], .sl 130⟩
  .nil) 45 ⟨6, 80, [.int .i64 0, .int .i64 0, .string ⟨#[]⟩, .string ⟨#[]⟩, .slice none 0 0, .int .i64 0], [0, 0, 0, 0, 2, 0], .struct [(0, 26), (3, 9), (4, 44), (5, 3)]⟩
  .nil) 46 ⟨6, 80, [.int .i64 0, .int .i64 0, .string ⟨#[]⟩, .string ⟨#[]⟩, .slice none 0 0, .int .i64 0], [0, 0, 0, 0, 2, 0], .struct [(0, 26), (3, 9), (4, 44), (5, 3)]⟩
  (.node .nil 47 ⟨1, 24, [.slice none 0 0], [10], .sl 90⟩
  .nil))) 48 ⟨1, 24, [.slice none 0 0], [2], .sl 126⟩
  (.node (.node (.node (.node .nil 49 ⟨1, 24, [.slice none 0 0], [5], .sl 132⟩
  .nil) 50 ⟨1, 24, [.slice none 0 0], [4], .sl 70⟩
  .nil) 51 ⟨13, 232, [.slice none 0 0, .slice none 0 0, .int .i64 0, .int .i64 0, .string ⟨#[]⟩, .string ⟨#[]⟩, .slice none 0 0, .int .i64 0, .slice none 0 0, .slice none 0 0, .slice none 0 0, .slice none 0 0, .int .i64 0], [4, 2, 0, 0, 0, 0, 2, 0, 10, 2, 5, 4, 0], .struct [(0, 42), (1, 43), (2, 46), (8, 47), (9, 48), (10, 49), (11, 50), (12, 3)]⟩
  (.node .nil 52 ⟨13, 232, [.slice none 0 0, .slice none 0 0, .int .i64 0, .int .i64 0, .string ⟨#[]⟩, .string ⟨#[]⟩, .slice none 0 0, .int .i64 0, .slice none 0 0, .slice none 0 0, .slice none 0 0, .slice none 0 0, .int .i64 0], [4, 2, 0, 0, 0, 0, 2, 0, 10, 2, 5, 4, 0], .struct [(0, 42), (1, 43), (2, 46), (8, 47), (9, 48), (10, 49), (11, 50), (12, 3)]⟩
  .nil)) 59 ⟨1, 24, [.slice none 0 0], [1], .sl 9⟩
  (.node (.node (.node .nil 69 ⟨4, 40, [.int .i64 0, .int .i64 0, .int .i64 0, .string ⟨#[]⟩], [0, 0, 0, 0], .struct [(0, 3), (1, 3), (2, 3), (3, 9)]⟩
  .nil) 70 ⟨4, 40, [.int .i64 0, .int .i64 0, .int .i64 0, .string ⟨#[]⟩], [0, 0, 0, 0], .struct [(0, 3), (1, 3), (2, 3), (3, 9)]⟩
  .nil) 86 ⟨1, 24, [.slice none 0 0], [1], .sl 3⟩
  (.node .nil 87 ⟨6, 88, [.int .i64 0, .int .i64 0, .string ⟨#[]⟩, .slice none 0 0, .slice none 0 0, .int .i64 0], [0, 0, 0, 2, 1, 0], .struct [(0, 26), (3, 44), (4, 86), (5, 3)]⟩
  .nil))))) 88 ⟨6, 88, [.int .i64 0, .int .i64 0, .string ⟨#[]⟩, .slice none 0 0, .slice none 0 0, .int .i64 0], [0, 0, 0, 2, 1, 0], .struct [(0, 26), (3, 44), (4, 86), (5, 3)]⟩
  (.node (.node (.node (.node (.node (.node .nil 89 ⟨10, 128, [.int .i64 0, .int .i64 0, .int .i64 0, .string ⟨#[]⟩, .slice none 0 0, .slice none 0 0, .int .i64 0, .string ⟨#[]⟩, .int .i64 0, .int .i64 0], [0, 0, 0, 0, 2, 1, 0, 0, 0, 0], .struct [(0, 3), (1, 88), (7, 9), (8, 3), (9, 3)]⟩
  .nil) 90 ⟨10, 128, [.int .i64 0, .int .i64 0, .int .i64 0, .string ⟨#[]⟩, .slice none 0 0, .slice none 0 0, .int .i64 0, .string ⟨#[]⟩, .int .i64 0, .int .i64 0], [0, 0, 0, 0, 2, 1, 0, 0, 0, 0], .struct [(0, 3), (1, 88), (7, 9), (8, 3), (9, 3)]⟩
  .nil) 98 ⟨4, 40, [.string ⟨#[]⟩, .int .i64 0, .int .i64 0, .int .i64 0], [0, 0, 0, 0], .struct [(0, 9), (1, 3), (2, 3), (3, 3)]⟩
  (.node .nil 99 ⟨4, 40, [.string ⟨#[]⟩, .int .i64 0, .int .i64 0, .int .i64 0], [0, 0, 0, 0], .struct [(0, 9), (1, 3), (2, 3), (3, 3)]⟩
  .nil)) 101 ⟨2, 24, [.string ⟨#[]⟩, .int .i64 0], [0, 0], .struct [(0, 9), (1, 3)]⟩
  (.node (.node (.node .nil 102 ⟨2, 24, [.string ⟨#[]⟩, .int .i64 0], [0, 0], .struct [(0, 9), (1, 3)]⟩
  .nil) 105 ⟨6, 88, [.int .i64 0, .int .i64 0, .string ⟨#[]⟩, .slice none 0 0, .slice none 0 0, .int .i64 0], [0, 0, 0, 2, 1, 0], .struct [(0, 23), (3, 31), (4, 86), (5, 3)]⟩
  .nil) 106 ⟨6, 88, [.int .i64 0, .int .i64 0, .string ⟨#[]⟩, .slice none 0 0, .slice none 0 0, .int .i64 0], [0, 0, 0, 2, 1, 0], .struct [(0, 23), (3, 31), (4, 86), (5, 3)]⟩
  (.node .nil 107 ⟨10, 128, [.int .i64 0, .int .i64 0, .int .i64 0, .string ⟨#[]⟩, .slice none 0 0, .slice none 0 0, .int .i64 0, .string ⟨#[]⟩, .int .i64 0, .int .i64 0], [0, 0, 0, 0, 2, 1, 0, 0, 0, 0], .struct [(0, 3), (1, 106), (7, 9), (8, 3), (9, 3)]⟩
  .nil))) 108 ⟨10, 128, [.int .i64 0, .int .i64 0, .int .i64 0, .string ⟨#[]⟩, .slice none 0 0, .slice none 0 0, .int .i64 0, .string ⟨#[]⟩, .int .i64 0, .int .i64 0], [0, 0, 0, 0, 2, 1, 0, 0, 0, 0], .struct [(0, 3), (1, 106), (7, 9), (8, 3), (9, 3)]⟩
  (.node (.node (.node (.node .nil 110 ⟨2, 24, [.string ⟨#[]⟩, .int .i64 0], [0, 0], .struct [(0, 9), (1, 3)]⟩
  .nil) 111 ⟨2, 24, [.string ⟨#[]⟩, .int .i64 0], [0, 0], .struct [(0, 9), (1, 3)]⟩
  .nil) 113 ⟨1, 24, [.slice none 0 0], [4], .sl 187⟩
  (.node .nil 114 ⟨2, 32, [.int .i64 0, .slice none 0 0], [0, 4], .struct [(0, 3), (1, 113)]⟩
  .nil)) 115 ⟨2, 32, [.int .i64 0, .slice none 0 0], [0, 4], .struct [(0, 3), (1, 113)]⟩
  (.node (.node (.node .nil 116 ⟨5, 56, [.int .i64 0, .int .i64 0, .int .i64 0, .slice none 0 0, .int .i64 0], [0, 0, 0, 4, 0], .struct [(0, 3), (1, 3), (2, 115), (4, 3)]⟩
  .nil) 117 ⟨5, 56, [.int .i64 0, .int .i64 0, .int .i64 0, .slice none 0 0, .int .i64 0], [0, 0, 0, 4, 0], .struct [(0, 3), (1, 3), (2, 115), (4, 3)]⟩
  .nil) 119 ⟨4, 40, [.int .i64 0, .int .i64 0, .int .i64 0, .string ⟨#[]⟩], [0, 0, 0, 0], .struct [(0, 3), (1, 3), (2, 3), (3, 9)]⟩
  (.node .nil 120 ⟨4, 40, [.string ⟨#[]⟩, .int .i64 0, .int .i64 0, .int .i64 0], [0, 0, 0, 0], .struct [(0, 9), (1, 3), (2, 3), (3, 3)]⟩
  .nil)))) 122 ⟨2, 24, [.string ⟨#[]⟩, .int .i64 0], [0, 0], .struct [(0, 9), (1, 3)]⟩
  (.node (.node (.node (.node (.node .nil 126 ⟨2, 24, [.string ⟨#[]⟩, .int .i64 0], [0, 0], .struct [(0, 9), (1, 3)]⟩
  .nil) 128 ⟨1, 24, [.slice none 0 0], [4], .sl 188⟩
  .nil) 129 ⟨2, 32, [.int .i64 0, .slice none 0 0], [0, 4], .struct [(0, 3), (1, 128)]⟩
  (.node .nil 130 ⟨2, 32, [.int .i64 0, .slice none 0 0], [0, 4], .struct [(0, 3), (1, 128)]⟩
  .nil)) 131 ⟨5, 56, [.int .i64 0, .int .i64 0, .int .i64 0, .slice none 0 0, .int .i64 0], [0, 0, 0, 4, 0], .struct [(0, 3), (1, 3), (2, 130), (4, 3)]⟩
  (.node (.node (.node .nil 132 ⟨5, 56, [.int .i64 0, .int .i64 0, .int .i64 0, .slice none 0 0, .int .i64 0], [0, 0, 0, 4, 0], .struct [(0, 3), (1, 3), (2, 130), (4, 3)]⟩
  .nil) 146 ⟨1, 24, [.slice none 0 0], [1], .sl 5⟩
  .nil) 161 ⟨1, 24, [.slice none 0 0], [4], .sl 177⟩
  (.node .nil 176 ⟨4, 32, [.int .i64 0, .bool false, .int .i64 0, .int .i64 0], [0, 0, 0, 0], .struct [(0, 3), (1, 4), (2, 3), (3, 3)]⟩
  .nil))) 177 ⟨4, 32, [.int .i64 0, .bool false, .int .i64 0, .int .i64 0], [0, 0, 0, 0], .struct [(0, 3), (1, 4), (2, 3), (3, 3)]⟩
  (.node (.node (.node (.node .nil 179 ⟨1, 24, [.slice none 0 0], [1], .sl 86⟩
  .nil) 186 ⟨4, 40, [.int .i64 0, .string ⟨#[]⟩, .int .i64 0, .int .i64 0], [0, 0, 0, 0], .struct [(0, 3), (1, 9), (2, 3), (3, 3)]⟩
  .nil) 187 ⟨4, 40, [.int .i64 0, .string ⟨#[]⟩, .int .i64 0, .int .i64 0], [0, 0, 0, 0], .struct [(0, 3), (1, 9), (2, 3), (3, 3)]⟩
  (.node .nil 188 ⟨4, 40, [.int .i64 0, .string ⟨#[]⟩, .int .i64 0, .int .i64 0], [0, 0, 0, 0], .struct [(0, 3), (1, 9), (2, 3), (3, 3)]⟩
  .nil)) 197 ⟨1, 4, [.int .u32 0], [0], .int .u32⟩
  (.node (.node (.node .nil 198 ⟨1, 1, [.int .u8 0], [0], .int .u8⟩
  .nil) 199 ⟨1, 1, [.int .u8 0], [0], .int .u8⟩
  .nil) 201 ⟨1, 4, [.int .i32 0], [0], .int .i32⟩
  (.node .nil 202 ⟨1, 4, [.int .i32 0], [0], .int .i32⟩
  .nil))))))

theorem Try.tok : TOk Try.prog Try.tab := tok_of (by kernel_rfl)
theorem Try.mixed : Try.prog.follows .mixedOrders = true := by kernel_rfl
end Go.Proofs
