import Derived.Test.YtgmppfmemimkkaaAvZ
import Derived.Test.YtgmppfmemimkkaaProg
import Derived.KernelRfl
namespace Go.Proofs
open Go Go.Av
def Try.tab : Tab :=
(.node (.node (.node (.node (.node (.node (.node .nil 1 ⟨1, 8, [.nilFunc], [0], .other⟩
 .nil) 2 ⟨1, 8, [.int .i64 0], [0], .int .i64⟩
 .nil) 3 ⟨1, 8, [.int .i64 0], [0], .int .i64⟩
 (.node (.node .nil 4 ⟨1, 1, [.bool false], [0], .bool⟩
 .nil) 5 ⟨1, 1, [.int .u8 0], [0], .int .u8⟩
 .nil)) 6 ⟨1, 1, [.int .u8 0], [0], .int .u8⟩
 (.node (.node (.node .nil 9 ⟨1, 16, [.string ⟨#[]⟩], [0], .str⟩
 .nil) 10 ⟨1, 16, [.string ⟨#[]⟩], [0], .str⟩
 .nil) 11 ⟨1, 16, [.string ⟨#[]⟩], [0], .str⟩
 (.node .nil 12 ⟨1, 8, [.int .u64 0], [0], .int .u64⟩
 .nil))) 21 ⟨1, 4, [.int .i32 0], [0], .int .i32⟩
 (.node (.node (.node (.node .nil 22 ⟨3, 32, [.int .i64 0, .int .i64 0, .string ⟨#[]⟩], [0, 0, 0], .struct [(0, 3), (1, 3), (2, 9)]⟩
 .nil) 23 ⟨3, 32, [.int .i64 0, .int .i64 0, .string ⟨#[]⟩], [0, 0, 0], .struct [(0, 3), (1, 3), (2, 9)]⟩
 .nil) 24 ⟨1, 24, [.slice none 0 0], [2], .sl 41⟩
 (.node (.node .nil 25 ⟨1, 8, [.nilFunc], [0], .other⟩
 .nil) 26 ⟨1, 8, [.nilFunc], [0], .other⟩
 .nil)) 27 ⟨1, 24, [.slice none 0 0], [16], .sl 50⟩
 (.node (.node (.node .nil 28 ⟨1, 8, [.nilFunc], [0], .other⟩
 .nil) 29 ⟨3, 32, [.int .i64 0, .int .i64 0, .string ⟨#[]⟩], [0, 0, 0], .struct [(0, 3), (1, 3), (2, 9)]⟩
 .nil) 30 ⟨1, 8, [.nilFunc], [0], .other⟩
 (.node .nil 31 ⟨1, 24, [.slice none 0 0], [2], .sl 44⟩
 .nil)))) 32 ⟨1, 8, [.nilFunc], [0], .other⟩
 (.node (.node (.node (.node (.node .nil 33 ⟨1, 8, [.nilFunc], [0], .other⟩
 .nil) 34 ⟨1, 8, [.nilFunc], [0], .other⟩
 .nil) 35 ⟨1, 8, [.nilFunc], [0], .other⟩
 (.node (.node .nil 36 ⟨1, 8, [.nilFunc], [0], .other⟩
 .nil) 37 ⟨1, 8, [.nilFunc], [0], .other⟩
 .nil)) 38 ⟨1, 8, [.nilFunc], [0], .other⟩
 (.node (.node (.node .nil 39 ⟨1, 24, [.slice none 0 0], [4], .sl 87⟩
 .nil) 40 ⟨2, 32, [.int .i64 0, .slice none 0 0], [0, 4], .struct [(0, 3), (1, 39)]⟩
 .nil) 41 ⟨2, 32, [.int .i64 0, .slice none 0 0], [0, 4], .struct [(0, 3), (1, 39)]⟩
 (.node .nil 42 ⟨1, 24, [.slice none 0 0], [4], .sl 80⟩
 .nil))) 43 ⟨2, 32, [.int .i64 0, .slice none 0 0], [0, 4], .struct [(0, 3), (1, 42)]⟩
 (.node (.node (.node (.node .nil 44 ⟨2, 32, [.int .i64 0, .slice none 0 0], [0, 4], .struct [(0, 3), (1, 42)]⟩
 .nil) 45 ⟨4, 40, [.string ⟨#[]⟩, .int .i64 0, .int .i64 0, .int .i64 0], [0, 0, 0, 0], .struct [(0, 9), (1, 3), (2, 3), (3, 3)]⟩
 .nil) 46 ⟨4, 40, [.string ⟨#[]⟩, .int .i64 0, .int .i64 0, .int .i64 0], [0, 0, 0, 0], .struct [(0, 9), (1, 3), (2, 3), (3, 3)]⟩
 (.node (.node .nil 47 ⟨2, 24, [.string ⟨#[]⟩, .int .i64 0], [0, 0], .struct [(0, 9), (1, 3)]⟩
 .nil) 48 ⟨2, 24, [.string ⟨#[]⟩, .int .i64 0], [0, 0], .struct [(0, 9), (1, 3)]⟩
 .nil)) 49 ⟨16, 176, [.int .i64 0, .int .i64 0, .int .i64 0, .int .i64 0, .string ⟨#[]⟩, .int .i64 0, .int .i64 0, .string ⟨#[]⟩, .int .i64 0, .slice none 0 0, .string ⟨#[]⟩, .int .i64 0, .int .i64 0, .int .i64 0, .string ⟨#[]⟩, .int .i64 0], [0, 0, 0, 0, 0, 0, 0, 0, 0, 4, 0, 0, 0, 0, 0, 0], .struct [(0, 3), (1, 3), (2, 3), (3, 3), (4, 9), (5, 29), (8, 44), (10, 46), (14, 48)]⟩
 (.node (.node (.node .nil 50 ⟨16, 176, [.int .i64 0, .int .i64 0, .int .i64 0, .int .i64 0, .string ⟨#[]⟩, .int .i64 0, .int .i64 0, .string ⟨#[]⟩, .int .i64 0, .slice none 0 0, .string ⟨#[]⟩, .int .i64 0, .int .i64 0, .int .i64 0, .string ⟨#[]⟩, .int .i64 0], [0, 0, 0, 0, 0, 0, 0, 0, 0, 4, 0, 0, 0, 0, 0, 0], .struct [(0, 3), (1, 3), (2, 3), (3, 3), (4, 9), (5, 29), (8, 44), (10, 46), (14, 48)]⟩
 .nil) 51 ⟨1, 24, [.slice none 0 0], [4], .sl 69⟩
 .nil) 52 ⟨1, 8, [.nilFunc], [0], .other⟩
 (.node .nil 53 ⟨1, 8, [.nilFunc], [0], .other⟩
 .nil))))) 54 ⟨1, 8, [.nilFunc], [0], .other⟩
 (.node (.node (.node (.node (.node (.node .nil 55 ⟨1, 8, [.nilFunc], [0], .other⟩
 .nil) 56 ⟨1, 8, [.nilFunc], [0], .other⟩
 .nil) 57 ⟨1, 8, [.nilFunc], [0], .other⟩
 (.node (.node .nil 58 ⟨1, 24, [.slice none 0 0], [1], .sl 9⟩
 .nil) 59 ⟨1, 8, [.nilFunc], [0], .other⟩
 .nil)) 60 ⟨1, 8, [.nilFunc], [0], .other⟩
 (.node (.node (.node .nil 61 ⟨1, 8, [.nilFunc], [0], .other⟩
 .nil) 62 ⟨1, 8, [.nilFunc], [0], .other⟩
 .nil) 63 ⟨1, 8, [.nilFunc], [0], .other⟩
 (.node .nil 64 ⟨1, 8, [.nilFunc], [0], .other⟩
 .nil))) 65 ⟨1, 8, [.nilFunc], [0], .other⟩
 (.node (.node (.node (.node .nil 66 ⟨1, 8, [.nilFunc], [0], .other⟩
 .nil) 67 ⟨1, 8, [.nilFunc], [0], .other⟩
 .nil) 68 ⟨4, 32, [.int .i64 0, .bool false, .int .i64 0, .int .i64 0], [0, 0, 0, 0], .struct [(0, 3), (1, 4), (2, 3), (3, 3)]⟩
 (.node (.node .nil 69 ⟨4, 32, [.int .i64 0, .bool false, .int .i64 0, .int .i64 0], [0, 0, 0, 0], .struct [(0, 3), (1, 4), (2, 3), (3, 3)]⟩
 .nil) 70 ⟨1, 8, [.nilFunc], [0], .other⟩
 .nil)) 71 ⟨1, 24, [.slice none 0 0], [1], .sl 3⟩
 (.node (.node (.node .nil 72 ⟨1, 8, [.nilFunc], [0], .other⟩
 .nil) 73 ⟨1, 8, [.nilFunc], [0], .other⟩
 .nil) 74 ⟨1, 8, [.nilFunc], [0], .other⟩
 (.node .nil 75 ⟨1, 24, [.slice none 0 0], [1], .sl 71⟩
 .nil)))) 76 ⟨1, 8, [.nilFunc], [0], .other⟩
 (.node (.node (.node (.node (.node .nil 77 ⟨1, 8, [.nilFunc], [0], .other⟩
 .nil) 78 ⟨1, 8, [.nilFunc], [0], .other⟩
 .nil) 79 ⟨4, 40, [.int .i64 0, .string ⟨#[]⟩, .int .i64 0, .int .i64 0], [0, 0, 0, 0], .struct [(0, 3), (1, 9), (2, 3), (3, 3)]⟩
 (.node (.node .nil 80 ⟨4, 40, [.int .i64 0, .string ⟨#[]⟩, .int .i64 0, .int .i64 0], [0, 0, 0, 0], .struct [(0, 3), (1, 9), (2, 3), (3, 3)]⟩
 .nil) 81 ⟨1, 8, [.nilFunc], [0], .other⟩
 .nil)) 82 ⟨1, 8, [.nilFunc], [0], .other⟩
 (.node (.node (.node .nil 83 ⟨1, 8, [.nilFunc], [0], .other⟩
 .nil) 84 ⟨1, 8, [.nilFunc], [0], .other⟩
 .nil) 85 ⟨1, 24, [.slice none 0 0], [1], .sl 5⟩
 (.node .nil 86 ⟨1, 8, [.nilFunc], [0], .other⟩
 .nil))) 87 ⟨4, 40, [.int .i64 0, .string ⟨#[]⟩, .int .i64 0, .int .i64 0], [0, 0, 0, 0], .struct [(0, 3), (1, 9), (2, 3), (3, 3)]⟩
 (.node (.node (.node (.node .nil 88 ⟨1, 8, [.nilFunc], [0], .other⟩
 .nil) 89 ⟨1, 8, [.nilFunc], [0], .other⟩
 .nil) 90 ⟨1, 8, [.nilFunc], [0], .other⟩
 (.node (.node .nil 96 ⟨1, 8, [.nilFunc], [0], .other⟩
 .nil) 97 ⟨1, 4, [.int .u32 0], [0], .int .u32⟩
 .nil)) 98 ⟨1, 1, [.int .u8 0], [0], .int .u8⟩
 (.node (.node (.node .nil 99 ⟨1, 1, [.int .u8 0], [0], .int .u8⟩
 .nil) 100 ⟨1, 8, [.nilFunc], [0], .other⟩
 .nil) 102 ⟨1, 4, [.int .i32 0], [0], .int .i32⟩
 (.node .nil 103 ⟨1, 4, [.int .i32 0], [0], .int .i32⟩
 .nil))))))

theorem Try.tok : TOk Try.prog Try.tab := tok_of (by kernel_rfl)
theorem Try.mixed : Try.prog.follows .mixedOrders = true := by kernel_rfl
end Go.Proofs
