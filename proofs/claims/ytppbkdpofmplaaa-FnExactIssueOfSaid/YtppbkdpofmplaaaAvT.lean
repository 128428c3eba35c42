import Derived.Test.YtppbkdpofmplaaaAvZ
import Derived.Test.YtppbkdpofmplaaaProg
import Derived.KernelRfl
namespace Go.Proofs
open Go Go.Av
def Try.tab : Tab :=
(.node (.node (.node (.node (.node (.node (.node (.node .nil 1 ⟨1, 8, [.nilFunc], [0], .other⟩
 .nil) 2 ⟨1, 8, [.int .i64 0], [0], .int .i64⟩
 .nil) 3 ⟨1, 8, [.int .i64 0], [0], .int .i64⟩
 (.node (.node .nil 4 ⟨1, 1, [.bool false], [0], .bool⟩
 .nil) 5 ⟨1, 1, [.int .u8 0], [0], .int .u8⟩
 .nil)) 6 ⟨1, 1, [.int .u8 0], [0], .int .u8⟩
 (.node (.node (.node .nil 9 ⟨1, 16, [.string ⟨#[]⟩], [0], .str⟩
 .nil) 10 ⟨1, 16, [.string ⟨#[]⟩], [0], .str⟩
 .nil) 11 ⟨1, 16, [.string ⟨#[]⟩], [0], .str⟩
 (.node (.node .nil 12 ⟨1, 8, [.int .u64 0], [0], .int .u64⟩
 .nil) 21 ⟨1, 4, [.int .i32 0], [0], .int .i32⟩
 .nil))) 22 ⟨1, 24, [.slice none 0 0], [4], .sl 104⟩
 (.node (.node (.node (.node .nil 23 ⟨1, 24, [.slice none 0 0], [2], .sl 107⟩
 .nil) 24 ⟨3, 32, [.int .i64 0, .int .i64 0, .string ⟨#[]⟩], [0, 0, 0], .struct [(0, 3), (1, 3), (2, 9)]⟩
 .nil) 25 ⟨3, 32, [.int .i64 0, .int .i64 0, .string ⟨#[]⟩], [0, 0, 0], .struct [(0, 3), (1, 3), (2, 9)]⟩
 (.node (.node .nil 26 ⟨1, 24, [.slice none 0 0], [2], .sl 121⟩
 .nil) 27 ⟨6, 80, [.int .i64 0, .int .i64 0, .string ⟨#[]⟩, .string ⟨#[]⟩, .slice none 0 0, .int .i64 0], [0, 0, 0, 0, 2, 0], .struct [(0, 25), (3, 9), (4, 26), (5, 3)]⟩
 .nil)) 28 ⟨6, 80, [.int .i64 0, .int .i64 0, .string ⟨#[]⟩, .string ⟨#[]⟩, .slice none 0 0, .int .i64 0], [0, 0, 0, 0, 2, 0], .struct [(0, 25), (3, 9), (4, 26), (5, 3)]⟩
 (.node (.node (.node .nil 29 ⟨1, 24, [.slice none 0 0], [10], .sl 114⟩
 .nil) 30 ⟨1, 24, [.slice none 0 0], [2], .sl 117⟩
 .nil) 31 ⟨1, 24, [.slice none 0 0], [5], .sl 123⟩
 (.node .nil 32 ⟨1, 24, [.slice none 0 0], [4], .sl 126⟩
 .nil)))) 33 ⟨13, 232, [.slice none 0 0, .slice none 0 0, .int .i64 0, .int .i64 0, .string ⟨#[]⟩, .string ⟨#[]⟩, .slice none 0 0, .int .i64 0, .slice none 0 0, .slice none 0 0, .slice none 0 0, .slice none 0 0, .int .i64 0], [4, 2, 0, 0, 0, 0, 2, 0, 10, 2, 5, 4, 0], .struct [(0, 22), (1, 23), (2, 28), (8, 29), (9, 30), (10, 31), (11, 32), (12, 3)]⟩
 (.node (.node (.node (.node (.node .nil 34 ⟨13, 232, [.slice none 0 0, .slice none 0 0, .int .i64 0, .int .i64 0, .string ⟨#[]⟩, .string ⟨#[]⟩, .slice none 0 0, .int .i64 0, .slice none 0 0, .slice none 0 0, .slice none 0 0, .slice none 0 0, .int .i64 0], [4, 2, 0, 0, 0, 0, 2, 0, 10, 2, 5, 4, 0], .struct [(0, 22), (1, 23), (2, 28), (8, 29), (9, 30), (10, 31), (11, 32), (12, 3)]⟩
 .nil) 35 ⟨1, 8, [.nilFunc], [0], .other⟩
 .nil) 36 ⟨3, 32, [.int .i64 0, .int .i64 0, .string ⟨#[]⟩], [0, 0, 0], .struct [(0, 3), (1, 3), (2, 9)]⟩
 (.node (.node .nil 37 ⟨1, 24, [.slice none 0 0], [2], .sl 139⟩
 .nil) 38 ⟨1, 24, [.slice none 0 0], [1], .sl 3⟩
 .nil)) 39 ⟨6, 88, [.int .i64 0, .int .i64 0, .string ⟨#[]⟩, .slice none 0 0, .slice none 0 0, .int .i64 0], [0, 0, 0, 2, 1, 0], .struct [(0, 36), (3, 37), (4, 38), (5, 3)]⟩
 (.node (.node (.node .nil 40 ⟨6, 88, [.int .i64 0, .int .i64 0, .string ⟨#[]⟩, .slice none 0 0, .slice none 0 0, .int .i64 0], [0, 0, 0, 2, 1, 0], .struct [(0, 36), (3, 37), (4, 38), (5, 3)]⟩
 .nil) 41 ⟨10, 128, [.int .i64 0, .int .i64 0, .int .i64 0, .string ⟨#[]⟩, .slice none 0 0, .slice none 0 0, .int .i64 0, .string ⟨#[]⟩, .int .i64 0, .int .i64 0], [0, 0, 0, 0, 2, 1, 0, 0, 0, 0], .struct [(0, 3), (1, 40), (7, 9), (8, 3), (9, 3)]⟩
 .nil) 42 ⟨10, 128, [.int .i64 0, .int .i64 0, .int .i64 0, .string ⟨#[]⟩, .slice none 0 0, .slice none 0 0, .int .i64 0, .string ⟨#[]⟩, .int .i64 0, .int .i64 0], [0, 0, 0, 0, 2, 1, 0, 0, 0, 0], .struct [(0, 3), (1, 40), (7, 9), (8, 3), (9, 3)]⟩
 (.node .nil 44 ⟨1, 8, [.nilFunc], [0], .other⟩
 .nil))) 45 ⟨1, 24, [.slice none 0 0], [4], .sl 128⟩
 (.node (.node (.node (.node .nil 46 ⟨1, 24, [.slice none 0 0], [2], .sl 130⟩
 .nil) 47 ⟨6, 80, [.int .i64 0, .int .i64 0, .string ⟨#[]⟩, .string ⟨#[]⟩, .slice none 0 0, .int .i64 0], [0, 0, 0, 0, 2, 0], .struct [(0, 36), (3, 9), (4, 37), (5, 3)]⟩
 .nil) 48 ⟨6, 80, [.int .i64 0, .int .i64 0, .string ⟨#[]⟩, .string ⟨#[]⟩, .slice none 0 0, .int .i64 0], [0, 0, 0, 0, 2, 0], .struct [(0, 36), (3, 9), (4, 37), (5, 3)]⟩
 (.node (.node .nil 49 ⟨1, 24, [.slice none 0 0], [10], .sl 42⟩
 .nil) 50 ⟨1, 24, [.slice none 0 0], [2], .sl 135⟩
 .nil)) 51 ⟨1, 24, [.slice none 0 0], [5], .sl 141⟩
 (.node (.node (.node .nil 52 ⟨1, 24, [.slice none 0 0], [4], .sl 143⟩
 .nil) 53 ⟨13, 232, [.slice none 0 0, .slice none 0 0, .int .i64 0, .int .i64 0, .string ⟨#[]⟩, .string ⟨#[]⟩, .slice none 0 0, .int .i64 0, .slice none 0 0, .slice none 0 0, .slice none 0 0, .slice none 0 0, .int .i64 0], [4, 2, 0, 0, 0, 0, 2, 0, 10, 2, 5, 4, 0], .struct [(0, 45), (1, 46), (2, 48), (8, 49), (9, 50), (10, 51), (11, 52), (12, 3)]⟩
 .nil) 54 ⟨13, 232, [.slice none 0 0, .slice none 0 0, .int .i64 0, .int .i64 0, .string ⟨#[]⟩, .string ⟨#[]⟩, .slice none 0 0, .int .i64 0, .slice none 0 0, .slice none 0 0, .slice none 0 0, .slice none 0 0, .int .i64 0], [4, 2, 0, 0, 0, 0, 2, 0, 10, 2, 5, 4, 0], .struct [(0, 45), (1, 46), (2, 48), (8, 49), (9, 50), (10, 51), (11, 52), (12, 3)]⟩
 (.node .nil 55 ⟨1, 8, [.nilFunc], [0], .other⟩
 .nil))))) 56 ⟨1, 8, [.nilFunc], [0], .other⟩
 (.node (.node (.node (.node (.node (.node .nil 57 ⟨1, 8, [.nilFunc], [0], .other⟩
 .nil) 58 ⟨1, 8, [.nilFunc], [0], .other⟩
 .nil) 59 ⟨1, 8, [.nilFunc], [0], .other⟩
 (.node (.node .nil 60 ⟨1, 8, [.nilFunc], [0], .other⟩
 .nil) 61 ⟨1, 24, [.slice none 0 0], [1], .sl 9⟩
 .nil)) 62 ⟨1, 8, [.nilFunc], [0], .other⟩
 (.node (.node (.node .nil 63 ⟨1, 8, [.nilFunc], [0], .other⟩
 .nil) 64 ⟨1, 8, [.nilFunc], [0], .other⟩
 .nil) 65 ⟨1, 8, [.nilFunc], [0], .other⟩
 (.node (.node .nil 66 ⟨1, 8, [.nilFunc], [0], .other⟩
 .nil) 67 ⟨1, 8, [.nilFunc], [0], .other⟩
 .nil))) 68 ⟨1, 8, [.nilFunc], [0], .other⟩
 (.node (.node (.node (.node .nil 69 ⟨1, 8, [.nilFunc], [0], .other⟩
 .nil) 70 ⟨1, 8, [.nilFunc], [0], .other⟩
 .nil) 71 ⟨1, 8, [.nilFunc], [0], .other⟩
 (.node (.node .nil 72 ⟨1, 8, [.nilFunc], [0], .other⟩
 .nil) 73 ⟨1, 8, [.nilFunc], [0], .other⟩
 .nil)) 74 ⟨1, 8, [.nilFunc], [0], .other⟩
 (.node (.node (.node .nil 75 ⟨1, 8, [.nilFunc], [0], .other⟩
 .nil) 76 ⟨1, 8, [.nilFunc], [0], .other⟩
 .nil) 77 ⟨1, 8, [.nilFunc], [0], .other⟩
 (.node .nil 78 ⟨1, 8, [.nilFunc], [0], .other⟩
 .nil)))) 79 ⟨1, 8, [.nilFunc], [0], .other⟩
 (.node (.node (.node (.node (.node .nil 80 ⟨1, 8, [.nilFunc], [0], .other⟩
 .nil) 81 ⟨1, 8, [.nilFunc], [0], .other⟩
 .nil) 82 ⟨1, 8, [.nilFunc], [0], .other⟩
 (.node (.node .nil 83 ⟨1, 8, [.nilFunc], [0], .other⟩
 .nil) 84 ⟨1, 8, [.nilFunc], [0], .other⟩
 .nil)) 85 ⟨1, 8, [.nilFunc], [0], .other⟩
 (.node (.node (.node .nil 86 ⟨1, 8, [.nilFunc], [0], .other⟩
 .nil) 87 ⟨1, 8, [.nilFunc], [0], .other⟩
 .nil) 88 ⟨1, 8, [.nilFunc], [0], .other⟩
 (.node .nil 89 ⟨1, 8, [.nilFunc], [0], .other⟩
 .nil))) 90 ⟨1, 8, [.nilFunc], [0], .other⟩
 (.node (.node (.node (.node .nil 91 ⟨1, 8, [.nilFunc], [0], .other⟩
 .nil) 92 ⟨1, 8, [.nilFunc], [0], .other⟩
 .nil) 93 ⟨1, 8, [.nilFunc], [0], .other⟩
 (.node (.node .nil 94 ⟨1, 8, [.nilFunc], [0], .other⟩
 .nil) 95 ⟨1, 8, [.nilFunc], [0], .other⟩
 .nil)) 96 ⟨1, 8, [.nilFunc], [0], .other⟩
 (.node (.node (.node .nil 97 ⟨1, 8, [.nilFunc], [0], .other⟩
 .nil) 98 ⟨1, 8, [.nilFunc], [0], .other⟩
 .nil) 99 ⟨1, 8, [.nilFunc], [0], .other⟩
 (.node .nil 100 ⟨1, 8, [.nilFunc], [0], .other⟩
 .nil)))))) 101 ⟨1, 8, [.nilFunc], [0], .other⟩
 (.node (.node (.node (.node (.node (.node (.node .nil 102 ⟨1, 8, [.nilFunc], [0], .other⟩
 .nil) 103 ⟨4, 40, [.string ⟨#[]⟩, .int .i64 0, .int .i64 0, .int .i64 0], [0, 0, 0, 0], .struct [(0, 9), (1, 3), (2, 3), (3, 3)]⟩
 .nil) 104 ⟨4, 40, [.string ⟨#[]⟩, .int .i64 0, .int .i64 0, .int .i64 0], [0, 0, 0, 0], .struct [(0, 9), (1, 3), (2, 3), (3, 3)]⟩
 (.node (.node .nil 105 ⟨1, 8, [.nilFunc], [0], .other⟩
 .nil) 106 ⟨2, 24, [.string ⟨#[]⟩, .int .i64 0], [0, 0], .struct [(0, 9), (1, 3)]⟩
 .nil)) 107 ⟨2, 24, [.string ⟨#[]⟩, .int .i64 0], [0, 0], .struct [(0, 9), (1, 3)]⟩
 (.node (.node (.node .nil 108 ⟨1, 8, [.nilFunc], [0], .other⟩
 .nil) 109 ⟨1, 8, [.nilFunc], [0], .other⟩
 .nil) 110 ⟨1, 8, [.nilFunc], [0], .other⟩
 (.node (.node .nil 111 ⟨6, 88, [.int .i64 0, .int .i64 0, .string ⟨#[]⟩, .slice none 0 0, .slice none 0 0, .int .i64 0], [0, 0, 0, 2, 1, 0], .struct [(0, 25), (3, 26), (4, 38), (5, 3)]⟩
 .nil) 112 ⟨6, 88, [.int .i64 0, .int .i64 0, .string ⟨#[]⟩, .slice none 0 0, .slice none 0 0, .int .i64 0], [0, 0, 0, 2, 1, 0], .struct [(0, 25), (3, 26), (4, 38), (5, 3)]⟩
 .nil))) 113 ⟨10, 128, [.int .i64 0, .int .i64 0, .int .i64 0, .string ⟨#[]⟩, .slice none 0 0, .slice none 0 0, .int .i64 0, .string ⟨#[]⟩, .int .i64 0, .int .i64 0], [0, 0, 0, 0, 2, 1, 0, 0, 0, 0], .struct [(0, 3), (1, 112), (7, 9), (8, 3), (9, 3)]⟩
 (.node (.node (.node (.node .nil 114 ⟨10, 128, [.int .i64 0, .int .i64 0, .int .i64 0, .string ⟨#[]⟩, .slice none 0 0, .slice none 0 0, .int .i64 0, .string ⟨#[]⟩, .int .i64 0, .int .i64 0], [0, 0, 0, 0, 2, 1, 0, 0, 0, 0], .struct [(0, 3), (1, 112), (7, 9), (8, 3), (9, 3)]⟩
 .nil) 115 ⟨1, 8, [.nilFunc], [0], .other⟩
 .nil) 116 ⟨2, 24, [.string ⟨#[]⟩, .int .i64 0], [0, 0], .struct [(0, 9), (1, 3)]⟩
 (.node (.node .nil 117 ⟨2, 24, [.string ⟨#[]⟩, .int .i64 0], [0, 0], .struct [(0, 9), (1, 3)]⟩
 .nil) 118 ⟨1, 8, [.nilFunc], [0], .other⟩
 .nil)) 119 ⟨1, 24, [.slice none 0 0], [4], .sl 177⟩
 (.node (.node (.node .nil 120 ⟨2, 32, [.int .i64 0, .slice none 0 0], [0, 4], .struct [(0, 3), (1, 119)]⟩
 .nil) 121 ⟨2, 32, [.int .i64 0, .slice none 0 0], [0, 4], .struct [(0, 3), (1, 119)]⟩
 .nil) 122 ⟨5, 56, [.int .i64 0, .int .i64 0, .int .i64 0, .slice none 0 0, .int .i64 0], [0, 0, 0, 4, 0], .struct [(0, 3), (1, 3), (2, 121), (4, 3)]⟩
 (.node .nil 123 ⟨5, 56, [.int .i64 0, .int .i64 0, .int .i64 0, .slice none 0 0, .int .i64 0], [0, 0, 0, 4, 0], .struct [(0, 3), (1, 3), (2, 121), (4, 3)]⟩
 .nil)))) 124 ⟨1, 8, [.nilFunc], [0], .other⟩
 (.node (.node (.node (.node (.node .nil 125 ⟨4, 40, [.int .i64 0, .int .i64 0, .int .i64 0, .string ⟨#[]⟩], [0, 0, 0, 0], .struct [(0, 3), (1, 3), (2, 3), (3, 9)]⟩
 .nil) 126 ⟨4, 40, [.int .i64 0, .int .i64 0, .int .i64 0, .string ⟨#[]⟩], [0, 0, 0, 0], .struct [(0, 3), (1, 3), (2, 3), (3, 9)]⟩
 .nil) 127 ⟨1, 8, [.nilFunc], [0], .other⟩
 (.node (.node .nil 128 ⟨4, 40, [.string ⟨#[]⟩, .int .i64 0, .int .i64 0, .int .i64 0], [0, 0, 0, 0], .struct [(0, 9), (1, 3), (2, 3), (3, 3)]⟩
 .nil) 129 ⟨1, 8, [.nilFunc], [0], .other⟩
 .nil)) 130 ⟨2, 24, [.string ⟨#[]⟩, .int .i64 0], [0, 0], .struct [(0, 9), (1, 3)]⟩
 (.node (.node (.node .nil 131 ⟨1, 8, [.nilFunc], [0], .other⟩
 .nil) 132 ⟨1, 8, [.nilFunc], [0], .other⟩
 .nil) 133 ⟨1, 8, [.nilFunc], [0], .other⟩
 (.node .nil 134 ⟨1, 8, [.nilFunc], [0], .other⟩
 .nil))) 135 ⟨2, 24, [.string ⟨#[]⟩, .int .i64 0], [0, 0], .struct [(0, 9), (1, 3)]⟩
 (.node (.node (.node (.node .nil 136 ⟨1, 8, [.nilFunc], [0], .other⟩
 .nil) 137 ⟨1, 24, [.slice none 0 0], [4], .sl 168⟩
 .nil) 138 ⟨2, 32, [.int .i64 0, .slice none 0 0], [0, 4], .struct [(0, 3), (1, 137)]⟩
 (.node (.node .nil 139 ⟨2, 32, [.int .i64 0, .slice none 0 0], [0, 4], .struct [(0, 3), (1, 137)]⟩
 .nil) 140 ⟨5, 56, [.int .i64 0, .int .i64 0, .int .i64 0, .slice none 0 0, .int .i64 0], [0, 0, 0, 4, 0], .struct [(0, 3), (1, 3), (2, 139), (4, 3)]⟩
 .nil)) 141 ⟨5, 56, [.int .i64 0, .int .i64 0, .int .i64 0, .slice none 0 0, .int .i64 0], [0, 0, 0, 4, 0], .struct [(0, 3), (1, 3), (2, 139), (4, 3)]⟩
 (.node (.node (.node .nil 142 ⟨1, 8, [.nilFunc], [0], .other⟩
 .nil) 143 ⟨4, 40, [.int .i64 0, .int .i64 0, .int .i64 0, .string ⟨#[]⟩], [0, 0, 0, 0], .struct [(0, 3), (1, 3), (2, 3), (3, 9)]⟩
 .nil) 144 ⟨1, 8, [.nilFunc], [0], .other⟩
 (.node .nil 145 ⟨1, 8, [.nilFunc], [0], .other⟩
 .nil))))) 146 ⟨1, 8, [.nilFunc], [0], .other⟩
 (.node (.node (.node (.node (.node (.node .nil 147 ⟨1, 8, [.nilFunc], [0], .other⟩
 .nil) 148 ⟨1, 8, [.nilFunc], [0], .other⟩
 .nil) 149 ⟨1, 8, [.nilFunc], [0], .other⟩
 (.node (.node .nil 150 ⟨1, 8, [.nilFunc], [0], .other⟩
 .nil) 151 ⟨1, 8, [.nilFunc], [0], .other⟩
 .nil)) 152 ⟨1, 8, [.nilFunc], [0], .other⟩
 (.node (.node (.node .nil 153 ⟨1, 8, [.nilFunc], [0], .other⟩
 .nil) 154 ⟨1, 8, [.nilFunc], [0], .other⟩
 .nil) 155 ⟨1, 8, [.nilFunc], [0], .other⟩
 (.node .nil 156 ⟨1, 8, [.nilFunc], [0], .other⟩
 .nil))) 157 ⟨1, 8, [.nilFunc], [0], .other⟩
 (.node (.node (.node (.node .nil 158 ⟨1, 8, [.nilFunc], [0], .other⟩
 .nil) 159 ⟨1, 24, [.slice none 0 0], [1], .sl 5⟩
 .nil) 160 ⟨1, 8, [.nilFunc], [0], .other⟩
 (.node (.node .nil 161 ⟨1, 8, [.nilFunc], [0], .other⟩
 .nil) 162 ⟨1, 8, [.nilFunc], [0], .other⟩
 .nil)) 163 ⟨1, 8, [.nilFunc], [0], .other⟩
 (.node (.node (.node .nil 164 ⟨1, 8, [.nilFunc], [0], .other⟩
 .nil) 165 ⟨1, 8, [.nilFunc], [0], .other⟩
 .nil) 166 ⟨1, 8, [.nilFunc], [0], .other⟩
 (.node .nil 167 ⟨4, 40, [.int .i64 0, .string ⟨#[]⟩, .int .i64 0, .int .i64 0], [0, 0, 0, 0], .struct [(0, 3), (1, 9), (2, 3), (3, 3)]⟩
 .nil)))) 168 ⟨4, 40, [.int .i64 0, .string ⟨#[]⟩, .int .i64 0, .int .i64 0], [0, 0, 0, 0], .struct [(0, 3), (1, 9), (2, 3), (3, 3)]⟩
 (.node (.node (.node (.node (.node .nil 169 ⟨1, 8, [.nilFunc], [0], .other⟩
 .nil) 170 ⟨1, 8, [.nilFunc], [0], .other⟩
 .nil) 171 ⟨1, 8, [.nilFunc], [0], .other⟩
 (.node (.node .nil 172 ⟨1, 8, [.nilFunc], [0], .other⟩
 .nil) 173 ⟨1, 8, [.nilFunc], [0], .other⟩
 .nil)) 174 ⟨1, 8, [.nilFunc], [0], .other⟩
 (.node (.node (.node .nil 175 ⟨1, 8, [.nilFunc], [0], .other⟩
 .nil) 176 ⟨1, 8, [.nilFunc], [0], .other⟩
 .nil) 177 ⟨4, 40, [.int .i64 0, .string ⟨#[]⟩, .int .i64 0, .int .i64 0], [0, 0, 0, 0], .struct [(0, 3), (1, 9), (2, 3), (3, 3)]⟩
 (.node .nil 178 ⟨1, 8, [.nilFunc], [0], .other⟩
 .nil))) 179 ⟨1, 8, [.nilFunc], [0], .other⟩
 (.node (.node (.node (.node .nil 180 ⟨1, 8, [.nilFunc], [0], .other⟩
 .nil) 181 ⟨1, 8, [.nilFunc], [0], .other⟩
 .nil) 187 ⟨1, 8, [.nilFunc], [0], .other⟩
 (.node (.node .nil 188 ⟨1, 4, [.int .u32 0], [0], .int .u32⟩
 .nil) 189 ⟨1, 1, [.int .u8 0], [0], .int .u8⟩
 .nil)) 190 ⟨1, 1, [.int .u8 0], [0], .int .u8⟩
 (.node (.node (.node .nil 191 ⟨1, 8, [.nilFunc], [0], .other⟩
 .nil) 193 ⟨1, 4, [.int .i32 0], [0], .int .i32⟩
 .nil) 194 ⟨1, 4, [.int .i32 0], [0], .int .i32⟩
 (.node .nil 197 ⟨1, 8, [.nilFunc], [0], .other⟩
 .nil)))))))

theorem Try.tok : TOk Try.prog Try.tab := tok_of (by kernel_rfl)
theorem Try.mixed : Try.prog.follows .mixedOrders = true := by kernel_rfl
end Go.Proofs
