import Derived.Test.YtppbkdpofmplaaaGreatAvZ
import Derived.Test.YtppbkdpofmplaaaGreatProg
import Derived.KernelRfl
namespace Go.Proofs
open Go Go.Av
def Tryz.tab : Tab :=
(.node (.node (.node (.node (.node (.node (.node (.node .nil 1 ⟨1, 8, [.nilFunc], [0], .other⟩
 .nil) 2 ⟨1, 8, [.int .i64 0], [0], .int .i64⟩
 (.node .nil 3 ⟨1, 8, [.int .i64 0], [0], .int .i64⟩
 .nil)) 4 ⟨1, 1, [.bool false], [0], .bool⟩
 (.node (.node .nil 5 ⟨1, 1, [.int .u8 0], [0], .int .u8⟩
 .nil) 6 ⟨1, 1, [.int .u8 0], [0], .int .u8⟩
 (.node .nil 9 ⟨1, 16, [.string ⟨#[]⟩], [0], .str⟩
 .nil))) 10 ⟨1, 16, [.string ⟨#[]⟩], [0], .str⟩
 (.node (.node (.node .nil 11 ⟨1, 16, [.string ⟨#[]⟩], [0], .str⟩
 .nil) 12 ⟨1, 8, [.int .u64 0], [0], .int .u64⟩
 (.node .nil 21 ⟨1, 4, [.int .i32 0], [0], .int .i32⟩
 .nil)) 22 ⟨1, 24, [.slice none 0 0], [4], .sl 114⟩
 (.node (.node .nil 23 ⟨1, 24, [.slice none 0 0], [2], .sl 117⟩
 .nil) 24 ⟨3, 32, [.int .i64 0, .int .i64 0, .string ⟨#[]⟩], [0, 0, 0], .struct [(0, 3), (1, 3), (2, 9)]⟩
 .nil))) 25 ⟨3, 32, [.int .i64 0, .int .i64 0, .string ⟨#[]⟩], [0, 0, 0], .struct [(0, 3), (1, 3), (2, 9)]⟩
 (.node (.node (.node (.node .nil 26 ⟨1, 24, [.slice none 0 0], [2], .sl 131⟩
 .nil) 27 ⟨6, 80, [.int .i64 0, .int .i64 0, .string ⟨#[]⟩, .string ⟨#[]⟩, .slice none 0 0, .int .i64 0], [0, 0, 0, 0, 2, 0], .struct [(0, 25), (3, 9), (4, 26), (5, 3)]⟩
 (.node .nil 28 ⟨6, 80, [.int .i64 0, .int .i64 0, .string ⟨#[]⟩, .string ⟨#[]⟩, .slice none 0 0, .int .i64 0], [0, 0, 0, 0, 2, 0], .struct [(0, 25), (3, 9), (4, 26), (5, 3)]⟩
 .nil)) 29 ⟨1, 24, [.slice none 0 0], [10], .sl 124⟩
 (.node (.node .nil 30 ⟨1, 24, [.slice none 0 0], [2], .sl 127⟩
 .nil) 31 ⟨1, 24, [.slice none 0 0], [5], .sl 133⟩
 .nil)) 32 ⟨1, 24, [.slice none 0 0], [4], .sl 135⟩
 (.node (.node (.node .nil 33 ⟨13, 232, [.slice none 0 0, .slice none 0 0, .int .i64 0, .int .i64 0, .string ⟨#[]⟩, .string ⟨#[]⟩, .slice none 0 0, .int .i64 0, .slice none 0 0, .slice none 0 0, .slice none 0 0, .slice none 0 0, .int .i64 0], [4, 2, 0, 0, 0, 0, 2, 0, 10, 2, 5, 4, 0], .struct [(0, 22), (1, 23), (2, 28), (8, 29), (9, 30), (10, 31), (11, 32), (12, 3)]⟩
 .nil) 34 ⟨13, 232, [.slice none 0 0, .slice none 0 0, .int .i64 0, .int .i64 0, .string ⟨#[]⟩, .string ⟨#[]⟩, .slice none 0 0, .int .i64 0, .slice none 0 0, .slice none 0 0, .slice none 0 0, .slice none 0 0, .int .i64 0], [4, 2, 0, 0, 0, 0, 2, 0, 10, 2, 5, 4, 0], .struct [(0, 22), (1, 23), (2, 28), (8, 29), (9, 30), (10, 31), (11, 32), (12, 3)]⟩
 (.node .nil 35 ⟨1, 8, [.nilFunc], [0], .other⟩
 .nil)) 36 ⟨1, 8, [.nilFunc], [0], .other⟩
 (.node (.node .nil 37 ⟨1, 24, [.slice none 0 0], [4], .sl 138⟩
 .nil) 38 ⟨1, 24, [.slice none 0 0], [2], .sl 140⟩
 .nil)))) 39 ⟨3, 32, [.int .i64 0, .int .i64 0, .string ⟨#[]⟩], [0, 0, 0], .struct [(0, 3), (1, 3), (2, 9)]⟩
 (.node (.node (.node (.node (.node .nil 40 ⟨1, 24, [.slice none 0 0], [2], .sl 99⟩
 .nil) 41 ⟨6, 80, [.int .i64 0, .int .i64 0, .string ⟨#[]⟩, .string ⟨#[]⟩, .slice none 0 0, .int .i64 0], [0, 0, 0, 0, 2, 0], .struct [(0, 39), (3, 9), (4, 40), (5, 3)]⟩
 (.node .nil 42 ⟨6, 80, [.int .i64 0, .int .i64 0, .string ⟨#[]⟩, .string ⟨#[]⟩, .slice none 0 0, .int .i64 0], [0, 0, 0, 0, 2, 0], .struct [(0, 39), (3, 9), (4, 40), (5, 3)]⟩
 .nil)) 43 ⟨1, 24, [.slice none 0 0], [10], .sl 69⟩
 (.node (.node .nil 44 ⟨1, 24, [.slice none 0 0], [2], .sl 145⟩
 .nil) 45 ⟨1, 24, [.slice none 0 0], [5], .sl 101⟩
 (.node .nil 46 ⟨1, 24, [.slice none 0 0], [4], .sl 73⟩
 .nil))) 47 ⟨13, 232, [.slice none 0 0, .slice none 0 0, .int .i64 0, .int .i64 0, .string ⟨#[]⟩, .string ⟨#[]⟩, .slice none 0 0, .int .i64 0, .slice none 0 0, .slice none 0 0, .slice none 0 0, .slice none 0 0, .int .i64 0], [4, 2, 0, 0, 0, 0, 2, 0, 10, 2, 5, 4, 0], .struct [(0, 37), (1, 38), (2, 42), (8, 43), (9, 44), (10, 45), (11, 46), (12, 3)]⟩
 (.node (.node (.node .nil 48 ⟨13, 232, [.slice none 0 0, .slice none 0 0, .int .i64 0, .int .i64 0, .string ⟨#[]⟩, .string ⟨#[]⟩, .slice none 0 0, .int .i64 0, .slice none 0 0, .slice none 0 0, .slice none 0 0, .slice none 0 0, .int .i64 0], [4, 2, 0, 0, 0, 0, 2, 0, 10, 2, 5, 4, 0], .struct [(0, 37), (1, 38), (2, 42), (8, 43), (9, 44), (10, 45), (11, 46), (12, 3)]⟩
 .nil) 49 ⟨1, 8, [.nilFunc], [0], .other⟩
 (.node .nil 50 ⟨1, 8, [.nilFunc], [0], .other⟩
 .nil)) 51 ⟨1, 8, [.nilFunc], [0], .other⟩
 (.node (.node .nil 52 ⟨1, 8, [.nilFunc], [0], .other⟩
 .nil) 53 ⟨1, 8, [.nilFunc], [0], .other⟩
 .nil))) 54 ⟨1, 8, [.nilFunc], [0], .other⟩
 (.node (.node (.node (.node .nil 55 ⟨1, 8, [.nilFunc], [0], .other⟩
 .nil) 57 ⟨1, 8, [.nilFunc], [0], .other⟩
 (.node .nil 58 ⟨1, 8, [.nilFunc], [0], .other⟩
 .nil)) 59 ⟨1, 8, [.nilFunc], [0], .other⟩
 (.node (.node .nil 60 ⟨1, 8, [.nilFunc], [0], .other⟩
 .nil) 61 ⟨1, 8, [.nilFunc], [0], .other⟩
 .nil)) 62 ⟨1, 8, [.nilFunc], [0], .other⟩
 (.node (.node (.node .nil 63 ⟨1, 8, [.nilFunc], [0], .other⟩
 .nil) 64 ⟨1, 8, [.nilFunc], [0], .other⟩
 (.node .nil 65 ⟨1, 24, [.slice none 0 0], [1], .sl 3⟩
 .nil)) 66 ⟨6, 88, [.int .i64 0, .int .i64 0, .string ⟨#[]⟩, .slice none 0 0, .slice none 0 0, .int .i64 0], [0, 0, 0, 2, 1, 0], .struct [(0, 39), (3, 40), (4, 65), (5, 3)]⟩
 (.node (.node .nil 67 ⟨6, 88, [.int .i64 0, .int .i64 0, .string ⟨#[]⟩, .slice none 0 0, .slice none 0 0, .int .i64 0], [0, 0, 0, 2, 1, 0], .struct [(0, 39), (3, 40), (4, 65), (5, 3)]⟩
 .nil) 68 ⟨10, 128, [.int .i64 0, .int .i64 0, .int .i64 0, .string ⟨#[]⟩, .slice none 0 0, .slice none 0 0, .int .i64 0, .string ⟨#[]⟩, .int .i64 0, .int .i64 0], [0, 0, 0, 0, 2, 1, 0, 0, 0, 0], .struct [(0, 3), (1, 67), (7, 9), (8, 3), (9, 3)]⟩
 .nil))))) 69 ⟨10, 128, [.int .i64 0, .int .i64 0, .int .i64 0, .string ⟨#[]⟩, .slice none 0 0, .slice none 0 0, .int .i64 0, .string ⟨#[]⟩, .int .i64 0, .int .i64 0], [0, 0, 0, 0, 2, 1, 0, 0, 0, 0], .struct [(0, 3), (1, 67), (7, 9), (8, 3), (9, 3)]⟩
 (.node (.node (.node (.node (.node (.node .nil 71 ⟨1, 8, [.nilFunc], [0], .other⟩
 .nil) 72 ⟨4, 40, [.int .i64 0, .int .i64 0, .int .i64 0, .string ⟨#[]⟩], [0, 0, 0, 0], .struct [(0, 3), (1, 3), (2, 3), (3, 9)]⟩
 (.node .nil 73 ⟨4, 40, [.int .i64 0, .int .i64 0, .int .i64 0, .string ⟨#[]⟩], [0, 0, 0, 0], .struct [(0, 3), (1, 3), (2, 3), (3, 9)]⟩
 .nil)) 74 ⟨1, 8, [.nilFunc], [0], .other⟩
 (.node (.node .nil 75 ⟨1, 8, [.nilFunc], [0], .other⟩
 .nil) 76 ⟨1, 8, [.nilFunc], [0], .other⟩
 (.node .nil 77 ⟨1, 8, [.nilFunc], [0], .other⟩
 .nil))) 78 ⟨1, 8, [.nilFunc], [0], .other⟩
 (.node (.node (.node .nil 79 ⟨1, 8, [.nilFunc], [0], .other⟩
 .nil) 80 ⟨1, 8, [.nilFunc], [0], .other⟩
 (.node .nil 81 ⟨1, 8, [.nilFunc], [0], .other⟩
 .nil)) 82 ⟨1, 8, [.nilFunc], [0], .other⟩
 (.node (.node .nil 83 ⟨1, 8, [.nilFunc], [0], .other⟩
 .nil) 84 ⟨1, 8, [.nilFunc], [0], .other⟩
 .nil))) 85 ⟨1, 8, [.nilFunc], [0], .other⟩
 (.node (.node (.node (.node .nil 86 ⟨1, 8, [.nilFunc], [0], .other⟩
 .nil) 87 ⟨1, 8, [.nilFunc], [0], .other⟩
 (.node .nil 88 ⟨1, 8, [.nilFunc], [0], .other⟩
 .nil)) 89 ⟨1, 8, [.nilFunc], [0], .other⟩
 (.node (.node .nil 90 ⟨1, 8, [.nilFunc], [0], .other⟩
 .nil) 91 ⟨1, 8, [.nilFunc], [0], .other⟩
 .nil)) 92 ⟨1, 8, [.nilFunc], [0], .other⟩
 (.node (.node (.node .nil 93 ⟨1, 8, [.nilFunc], [0], .other⟩
 .nil) 94 ⟨1, 8, [.nilFunc], [0], .other⟩
 (.node .nil 95 ⟨1, 8, [.nilFunc], [0], .other⟩
 .nil)) 96 ⟨1, 8, [.nilFunc], [0], .other⟩
 (.node (.node .nil 97 ⟨1, 24, [.slice none 0 0], [4], .sl 198⟩
 .nil) 98 ⟨2, 32, [.int .i64 0, .slice none 0 0], [0, 4], .struct [(0, 3), (1, 97)]⟩
 .nil)))) 99 ⟨2, 32, [.int .i64 0, .slice none 0 0], [0, 4], .struct [(0, 3), (1, 97)]⟩
 (.node (.node (.node (.node (.node .nil 100 ⟨5, 56, [.int .i64 0, .int .i64 0, .int .i64 0, .slice none 0 0, .int .i64 0], [0, 0, 0, 4, 0], .struct [(0, 3), (1, 3), (2, 99), (4, 3)]⟩
 .nil) 101 ⟨5, 56, [.int .i64 0, .int .i64 0, .int .i64 0, .slice none 0 0, .int .i64 0], [0, 0, 0, 4, 0], .struct [(0, 3), (1, 3), (2, 99), (4, 3)]⟩
 (.node .nil 102 ⟨1, 8, [.nilFunc], [0], .other⟩
 .nil)) 103 ⟨1, 8, [.nilFunc], [0], .other⟩
 (.node (.node .nil 104 ⟨1, 8, [.nilFunc], [0], .other⟩
 .nil) 105 ⟨1, 8, [.nilFunc], [0], .other⟩
 .nil)) 106 ⟨1, 8, [.nilFunc], [0], .other⟩
 (.node (.node (.node .nil 107 ⟨1, 8, [.nilFunc], [0], .other⟩
 .nil) 108 ⟨1, 8, [.nilFunc], [0], .other⟩
 (.node .nil 109 ⟨1, 8, [.nilFunc], [0], .other⟩
 .nil)) 110 ⟨1, 8, [.nilFunc], [0], .other⟩
 (.node (.node .nil 111 ⟨1, 8, [.nilFunc], [0], .other⟩
 .nil) 112 ⟨1, 8, [.nilFunc], [0], .other⟩
 .nil))) 113 ⟨4, 40, [.string ⟨#[]⟩, .int .i64 0, .int .i64 0, .int .i64 0], [0, 0, 0, 0], .struct [(0, 9), (1, 3), (2, 3), (3, 3)]⟩
 (.node (.node (.node (.node .nil 114 ⟨4, 40, [.string ⟨#[]⟩, .int .i64 0, .int .i64 0, .int .i64 0], [0, 0, 0, 0], .struct [(0, 9), (1, 3), (2, 3), (3, 3)]⟩
 .nil) 115 ⟨1, 8, [.nilFunc], [0], .other⟩
 (.node .nil 116 ⟨2, 24, [.string ⟨#[]⟩, .int .i64 0], [0, 0], .struct [(0, 9), (1, 3)]⟩
 .nil)) 117 ⟨2, 24, [.string ⟨#[]⟩, .int .i64 0], [0, 0], .struct [(0, 9), (1, 3)]⟩
 (.node (.node .nil 118 ⟨1, 8, [.nilFunc], [0], .other⟩
 .nil) 119 ⟨1, 8, [.nilFunc], [0], .other⟩
 .nil)) 120 ⟨1, 8, [.nilFunc], [0], .other⟩
 (.node (.node (.node .nil 121 ⟨6, 88, [.int .i64 0, .int .i64 0, .string ⟨#[]⟩, .slice none 0 0, .slice none 0 0, .int .i64 0], [0, 0, 0, 2, 1, 0], .struct [(0, 25), (3, 26), (4, 65), (5, 3)]⟩
 .nil) 122 ⟨6, 88, [.int .i64 0, .int .i64 0, .string ⟨#[]⟩, .slice none 0 0, .slice none 0 0, .int .i64 0], [0, 0, 0, 2, 1, 0], .struct [(0, 25), (3, 26), (4, 65), (5, 3)]⟩
 (.node .nil 123 ⟨10, 128, [.int .i64 0, .int .i64 0, .int .i64 0, .string ⟨#[]⟩, .slice none 0 0, .slice none 0 0, .int .i64 0, .string ⟨#[]⟩, .int .i64 0, .int .i64 0], [0, 0, 0, 0, 2, 1, 0, 0, 0, 0], .struct [(0, 3), (1, 122), (7, 9), (8, 3), (9, 3)]⟩
 .nil)) 124 ⟨10, 128, [.int .i64 0, .int .i64 0, .int .i64 0, .string ⟨#[]⟩, .slice none 0 0, .slice none 0 0, .int .i64 0, .string ⟨#[]⟩, .int .i64 0, .int .i64 0], [0, 0, 0, 0, 2, 1, 0, 0, 0, 0], .struct [(0, 3), (1, 122), (7, 9), (8, 3), (9, 3)]⟩
 (.node (.node .nil 125 ⟨1, 8, [.nilFunc], [0], .other⟩
 .nil) 126 ⟨2, 24, [.string ⟨#[]⟩, .int .i64 0], [0, 0], .struct [(0, 9), (1, 3)]⟩
 .nil)))))) 127 ⟨2, 24, [.string ⟨#[]⟩, .int .i64 0], [0, 0], .struct [(0, 9), (1, 3)]⟩
 (.node (.node (.node (.node (.node (.node (.node .nil 128 ⟨1, 8, [.nilFunc], [0], .other⟩
 .nil) 129 ⟨1, 24, [.slice none 0 0], [4], .sl 222⟩
 (.node .nil 130 ⟨2, 32, [.int .i64 0, .slice none 0 0], [0, 4], .struct [(0, 3), (1, 129)]⟩
 .nil)) 131 ⟨2, 32, [.int .i64 0, .slice none 0 0], [0, 4], .struct [(0, 3), (1, 129)]⟩
 (.node (.node .nil 132 ⟨5, 56, [.int .i64 0, .int .i64 0, .int .i64 0, .slice none 0 0, .int .i64 0], [0, 0, 0, 4, 0], .struct [(0, 3), (1, 3), (2, 131), (4, 3)]⟩
 .nil) 133 ⟨5, 56, [.int .i64 0, .int .i64 0, .int .i64 0, .slice none 0 0, .int .i64 0], [0, 0, 0, 4, 0], .struct [(0, 3), (1, 3), (2, 131), (4, 3)]⟩
 (.node .nil 134 ⟨1, 8, [.nilFunc], [0], .other⟩
 .nil))) 135 ⟨4, 40, [.int .i64 0, .int .i64 0, .int .i64 0, .string ⟨#[]⟩], [0, 0, 0, 0], .struct [(0, 3), (1, 3), (2, 3), (3, 9)]⟩
 (.node (.node (.node .nil 136 ⟨1, 8, [.nilFunc], [0], .other⟩
 .nil) 137 ⟨1, 8, [.nilFunc], [0], .other⟩
 (.node .nil 138 ⟨4, 40, [.string ⟨#[]⟩, .int .i64 0, .int .i64 0, .int .i64 0], [0, 0, 0, 0], .struct [(0, 9), (1, 3), (2, 3), (3, 3)]⟩
 .nil)) 139 ⟨1, 8, [.nilFunc], [0], .other⟩
 (.node (.node .nil 140 ⟨2, 24, [.string ⟨#[]⟩, .int .i64 0], [0, 0], .struct [(0, 9), (1, 3)]⟩
 .nil) 141 ⟨1, 8, [.nilFunc], [0], .other⟩
 .nil))) 142 ⟨1, 8, [.nilFunc], [0], .other⟩
 (.node (.node (.node (.node .nil 143 ⟨1, 8, [.nilFunc], [0], .other⟩
 .nil) 144 ⟨1, 8, [.nilFunc], [0], .other⟩
 (.node .nil 145 ⟨2, 24, [.string ⟨#[]⟩, .int .i64 0], [0, 0], .struct [(0, 9), (1, 3)]⟩
 .nil)) 146 ⟨1, 8, [.nilFunc], [0], .other⟩
 (.node (.node .nil 147 ⟨1, 8, [.nilFunc], [0], .other⟩
 .nil) 148 ⟨1, 8, [.nilFunc], [0], .other⟩
 .nil)) 149 ⟨1, 8, [.nilFunc], [0], .other⟩
 (.node (.node (.node .nil 150 ⟨1, 8, [.nilFunc], [0], .other⟩
 .nil) 151 ⟨1, 8, [.nilFunc], [0], .other⟩
 (.node .nil 152 ⟨1, 8, [.nilFunc], [0], .other⟩
 .nil)) 153 ⟨1, 8, [.nilFunc], [0], .other⟩
 (.node (.node .nil 154 ⟨1, 8, [.nilFunc], [0], .other⟩
 .nil) 155 ⟨1, 8, [.nilFunc], [0], .other⟩
 .nil)))) 156 ⟨1, 8, [.nilFunc], [0], .other⟩
 (.node (.node (.node (.node (.node .nil 157 ⟨1, 8, [.nilFunc], [0], .other⟩
 .nil) 158 ⟨1, 8, [.nilFunc], [0], .other⟩
 (.node .nil 159 ⟨1, 8, [.nilFunc], [0], .other⟩
 .nil)) 160 ⟨1, 8, [.nilFunc], [0], .other⟩
 (.node (.node .nil 161 ⟨1, 8, [.nilFunc], [0], .other⟩
 .nil) 162 ⟨1, 8, [.nilFunc], [0], .other⟩
 (.node .nil 163 ⟨1, 24, [.slice none 0 0], [4], .sl 194⟩
 .nil))) 164 ⟨1, 8, [.nilFunc], [0], .other⟩
 (.node (.node (.node .nil 165 ⟨1, 8, [.nilFunc], [0], .other⟩
 .nil) 166 ⟨1, 8, [.nilFunc], [0], .other⟩
 (.node .nil 167 ⟨1, 8, [.nilFunc], [0], .other⟩
 .nil)) 168 ⟨1, 8, [.nilFunc], [0], .other⟩
 (.node (.node .nil 169 ⟨1, 8, [.nilFunc], [0], .other⟩
 .nil) 170 ⟨1, 8, [.nilFunc], [0], .other⟩
 .nil))) 171 ⟨1, 8, [.nilFunc], [0], .other⟩
 (.node (.node (.node (.node .nil 172 ⟨1, 8, [.nilFunc], [0], .other⟩
 .nil) 173 ⟨1, 8, [.nilFunc], [0], .other⟩
 (.node .nil 174 ⟨1, 8, [.nilFunc], [0], .other⟩
 .nil)) 175 ⟨1, 8, [.nilFunc], [0], .other⟩
 (.node (.node .nil 176 ⟨1, 8, [.nilFunc], [0], .other⟩
 .nil) 177 ⟨1, 8, [.nilFunc], [0], .other⟩
 .nil)) 178 ⟨1, 8, [.nilFunc], [0], .other⟩
 (.node (.node (.node .nil 179 ⟨1, 8, [.nilFunc], [0], .other⟩
 .nil) 180 ⟨1, 8, [.nilFunc], [0], .other⟩
 (.node .nil 181 ⟨1, 8, [.nilFunc], [0], .other⟩
 .nil)) 182 ⟨1, 8, [.nilFunc], [0], .other⟩
 (.node (.node .nil 183 ⟨1, 8, [.nilFunc], [0], .other⟩
 .nil) 184 ⟨1, 8, [.nilFunc], [0], .other⟩
 .nil))))) 185 ⟨1, 8, [.nilFunc], [0], .other⟩
 (.node (.node (.node (.node (.node (.node .nil 186 ⟨1, 24, [.slice none 0 0], [1], .sl 9⟩
 .nil) 187 ⟨1, 8, [.nilFunc], [0], .other⟩
 (.node .nil 188 ⟨1, 8, [.nilFunc], [0], .other⟩
 .nil)) 189 ⟨1, 8, [.nilFunc], [0], .other⟩
 (.node (.node .nil 190 ⟨1, 8, [.nilFunc], [0], .other⟩
 .nil) 191 ⟨1, 8, [.nilFunc], [0], .other⟩
 (.node .nil 192 ⟨1, 8, [.nilFunc], [0], .other⟩
 .nil))) 193 ⟨4, 32, [.int .i64 0, .bool false, .int .i64 0, .int .i64 0], [0, 0, 0, 0], .struct [(0, 3), (1, 4), (2, 3), (3, 3)]⟩
 (.node (.node (.node .nil 194 ⟨4, 32, [.int .i64 0, .bool false, .int .i64 0, .int .i64 0], [0, 0, 0, 0], .struct [(0, 3), (1, 4), (2, 3), (3, 3)]⟩
 .nil) 195 ⟨1, 8, [.nilFunc], [0], .other⟩
 (.node .nil 196 ⟨1, 8, [.nilFunc], [0], .other⟩
 .nil)) 197 ⟨4, 40, [.int .i64 0, .string ⟨#[]⟩, .int .i64 0, .int .i64 0], [0, 0, 0, 0], .struct [(0, 3), (1, 9), (2, 3), (3, 3)]⟩
 (.node (.node .nil 198 ⟨4, 40, [.int .i64 0, .string ⟨#[]⟩, .int .i64 0, .int .i64 0], [0, 0, 0, 0], .struct [(0, 3), (1, 9), (2, 3), (3, 3)]⟩
 .nil) 199 ⟨1, 8, [.nilFunc], [0], .other⟩
 .nil))) 200 ⟨1, 8, [.nilFunc], [0], .other⟩
 (.node (.node (.node (.node .nil 201 ⟨1, 8, [.nilFunc], [0], .other⟩
 .nil) 202 ⟨1, 8, [.nilFunc], [0], .other⟩
 (.node .nil 203 ⟨1, 24, [.slice none 0 0], [1], .sl 5⟩
 .nil)) 204 ⟨1, 8, [.nilFunc], [0], .other⟩
 (.node (.node .nil 205 ⟨1, 8, [.nilFunc], [0], .other⟩
 .nil) 206 ⟨1, 8, [.nilFunc], [0], .other⟩
 .nil)) 207 ⟨1, 8, [.nilFunc], [0], .other⟩
 (.node (.node (.node .nil 208 ⟨1, 8, [.nilFunc], [0], .other⟩
 .nil) 209 ⟨1, 24, [.slice none 0 0], [1], .sl 65⟩
 (.node .nil 210 ⟨1, 8, [.nilFunc], [0], .other⟩
 .nil)) 211 ⟨1, 8, [.nilFunc], [0], .other⟩
 (.node (.node .nil 212 ⟨1, 8, [.nilFunc], [0], .other⟩
 .nil) 213 ⟨1, 8, [.nilFunc], [0], .other⟩
 .nil)))) 214 ⟨1, 8, [.nilFunc], [0], .other⟩
 (.node (.node (.node (.node (.node .nil 215 ⟨1, 8, [.nilFunc], [0], .other⟩
 .nil) 216 ⟨1, 8, [.nilFunc], [0], .other⟩
 (.node .nil 217 ⟨1, 8, [.map none], [0], .map 3 3⟩
 .nil)) 218 ⟨1, 8, [.nilFunc], [0], .other⟩
 (.node (.node .nil 219 ⟨1, 8, [.nilFunc], [0], .other⟩
 .nil) 220 ⟨1, 8, [.nilFunc], [0], .other⟩
 .nil)) 221 ⟨1, 8, [.nilFunc], [0], .other⟩
 (.node (.node (.node .nil 222 ⟨4, 40, [.int .i64 0, .string ⟨#[]⟩, .int .i64 0, .int .i64 0], [0, 0, 0, 0], .struct [(0, 3), (1, 9), (2, 3), (3, 3)]⟩
 .nil) 223 ⟨1, 8, [.nilFunc], [0], .other⟩
 (.node .nil 224 ⟨1, 8, [.nilFunc], [0], .other⟩
 .nil)) 225 ⟨1, 8, [.nilFunc], [0], .other⟩
 (.node (.node .nil 226 ⟨1, 8, [.nilFunc], [0], .other⟩
 .nil) 227 ⟨1, 8, [.nilFunc], [0], .other⟩
 .nil))) 228 ⟨1, 24, [.slice none 0 0], [1], .sl 4⟩
 (.node (.node (.node (.node .nil 229 ⟨1, 8, [.nilFunc], [0], .other⟩
 .nil) 230 ⟨1, 8, [.nilFunc], [0], .other⟩
 (.node .nil 231 ⟨1, 8, [.nilFunc], [0], .other⟩
 .nil)) 232 ⟨1, 8, [.nilFunc], [0], .other⟩
 (.node (.node .nil 233 ⟨1, 8, [.nilFunc], [0], .other⟩
 .nil) 239 ⟨1, 8, [.nilFunc], [0], .other⟩
 .nil)) 240 ⟨1, 4, [.int .u32 0], [0], .int .u32⟩
 (.node (.node (.node .nil 241 ⟨1, 1, [.int .u8 0], [0], .int .u8⟩
 .nil) 242 ⟨1, 1, [.int .u8 0], [0], .int .u8⟩
 (.node .nil 243 ⟨1, 8, [.nilFunc], [0], .other⟩
 .nil)) 245 ⟨1, 4, [.int .i32 0], [0], .int .i32⟩
 (.node (.node .nil 246 ⟨1, 4, [.int .i32 0], [0], .int .i32⟩
 .nil) 249 ⟨1, 8, [.nilFunc], [0], .other⟩
 .nil)))))))

theorem Tryz.tok : TOk Tryz.prog Tryz.tab := tok_of (by kernel_rfl)
theorem Tryz.mixed : Tryz.prog.follows .mixedOrders = true := by kernel_rfl
end Go.Proofs
