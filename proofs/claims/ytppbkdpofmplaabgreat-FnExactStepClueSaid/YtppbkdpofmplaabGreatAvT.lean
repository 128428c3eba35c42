import Derived.Test.YtppbkdpofmplaabGreatAvZ
import Derived.Test.YtppbkdpofmplaabGreatProg
import Derived.KernelRfl
namespace Go.Proofs
open Go Go.Av
def Tryz.tab : Tab :=
(.node (.node (.node (.node (.node (.node (.node (.node .nil 1 ⟨1, 8, [.nilFunc], [0], .other⟩
 .nil) 2 ⟨1, 8, [.int .i64 0], [0], .int .i64⟩
 (.node .nil 3 ⟨1, 8, [.int .i64 0], [0], .int .i64⟩
 .nil)) 4 ⟨1, 1, [.bool false], [0], .bool⟩
 (.node (.node .nil 5 ⟨1, 1, [.int .u8 0], [0], .int .u8⟩
 .nil) 6 ⟨1, 1, [.int .u8 0], [0], .int .u8⟩
 (.node .nil 9 ⟨1, 16, [.string ⟨#[]⟩], [0], .str⟩
 .nil))) 10 ⟨1, 16, [.string ⟨#[]⟩], [0], .str⟩
 (.node (.node (.node .nil 11 ⟨1, 16, [.string ⟨#[]⟩], [0], .str⟩
 .nil) 12 ⟨1, 8, [.int .u64 0], [0], .int .u64⟩
 (.node .nil 21 ⟨1, 4, [.int .i32 0], [0], .int .i32⟩
 .nil)) 22 ⟨1, 24, [.slice none 0 0], [4], .sl 78⟩
 (.node (.node .nil 23 ⟨1, 24, [.slice none 0 0], [2], .sl 81⟩
 .nil) 24 ⟨1, 8, [.nilFunc], [0], .other⟩
 .nil))) 25 ⟨1, 8, [.nilFunc], [0], .other⟩
 (.node (.node (.node (.node .nil 26 ⟨1, 24, [.slice none 0 0], [4], .sl 84⟩
 .nil) 27 ⟨1, 24, [.slice none 0 0], [2], .sl 86⟩
 (.node .nil 28 ⟨3, 32, [.int .i64 0, .int .i64 0, .string ⟨#[]⟩], [0, 0, 0], .struct [(0, 3), (1, 3), (2, 9)]⟩
 .nil)) 29 ⟨3, 32, [.int .i64 0, .int .i64 0, .string ⟨#[]⟩], [0, 0, 0], .struct [(0, 3), (1, 3), (2, 9)]⟩
 (.node (.node .nil 30 ⟨1, 24, [.slice none 0 0], [2], .sl 69⟩
 .nil) 31 ⟨6, 80, [.int .i64 0, .int .i64 0, .string ⟨#[]⟩, .string ⟨#[]⟩, .slice none 0 0, .int .i64 0], [0, 0, 0, 0, 2, 0], .struct [(0, 29), (3, 9), (4, 30), (5, 3)]⟩
 .nil)) 32 ⟨6, 80, [.int .i64 0, .int .i64 0, .string ⟨#[]⟩, .string ⟨#[]⟩, .slice none 0 0, .int .i64 0], [0, 0, 0, 0, 2, 0], .struct [(0, 29), (3, 9), (4, 30), (5, 3)]⟩
 (.node (.node (.node .nil 33 ⟨1, 24, [.slice none 0 0], [10], .sl 121⟩
 .nil) 34 ⟨1, 24, [.slice none 0 0], [2], .sl 139⟩
 (.node .nil 35 ⟨1, 24, [.slice none 0 0], [5], .sl 144⟩
 .nil)) 36 ⟨1, 24, [.slice none 0 0], [4], .sl 125⟩
 (.node (.node .nil 37 ⟨13, 232, [.slice none 0 0, .slice none 0 0, .int .i64 0, .int .i64 0, .string ⟨#[]⟩, .string ⟨#[]⟩, .slice none 0 0, .int .i64 0, .slice none 0 0, .slice none 0 0, .slice none 0 0, .slice none 0 0, .int .i64 0], [4, 2, 0, 0, 0, 0, 2, 0, 10, 2, 5, 4, 0], .struct [(0, 26), (1, 27), (2, 32), (8, 33), (9, 34), (10, 35), (11, 36), (12, 3)]⟩
 .nil) 38 ⟨13, 232, [.slice none 0 0, .slice none 0 0, .int .i64 0, .int .i64 0, .string ⟨#[]⟩, .string ⟨#[]⟩, .slice none 0 0, .int .i64 0, .slice none 0 0, .slice none 0 0, .slice none 0 0, .slice none 0 0, .int .i64 0], [4, 2, 0, 0, 0, 0, 2, 0, 10, 2, 5, 4, 0], .struct [(0, 26), (1, 27), (2, 32), (8, 33), (9, 34), (10, 35), (11, 36), (12, 3)]⟩
 .nil)))) 40 ⟨1, 8, [.nilFunc], [0], .other⟩
 (.node (.node (.node (.node (.node .nil 41 ⟨1, 8, [.nilFunc], [0], .other⟩
 .nil) 42 ⟨1, 8, [.nilFunc], [0], .other⟩
 (.node .nil 43 ⟨1, 8, [.nilFunc], [0], .other⟩
 .nil)) 44 ⟨1, 8, [.nilFunc], [0], .other⟩
 (.node (.node .nil 45 ⟨1, 8, [.nilFunc], [0], .other⟩
 .nil) 46 ⟨1, 8, [.nilFunc], [0], .other⟩
 (.node .nil 47 ⟨1, 8, [.nilFunc], [0], .other⟩
 .nil))) 48 ⟨1, 8, [.nilFunc], [0], .other⟩
 (.node (.node (.node .nil 49 ⟨1, 8, [.nilFunc], [0], .other⟩
 .nil) 50 ⟨3, 32, [.int .i64 0, .int .i64 0, .string ⟨#[]⟩], [0, 0, 0], .struct [(0, 3), (1, 3), (2, 9)]⟩
 (.node .nil 51 ⟨1, 24, [.slice none 0 0], [2], .sl 62⟩
 .nil)) 52 ⟨6, 80, [.int .i64 0, .int .i64 0, .string ⟨#[]⟩, .string ⟨#[]⟩, .slice none 0 0, .int .i64 0], [0, 0, 0, 0, 2, 0], .struct [(0, 50), (3, 9), (4, 51), (5, 3)]⟩
 (.node (.node .nil 53 ⟨6, 80, [.int .i64 0, .int .i64 0, .string ⟨#[]⟩, .string ⟨#[]⟩, .slice none 0 0, .int .i64 0], [0, 0, 0, 0, 2, 0], .struct [(0, 50), (3, 9), (4, 51), (5, 3)]⟩
 .nil) 54 ⟨1, 24, [.slice none 0 0], [10], .sl 161⟩
 .nil))) 55 ⟨1, 24, [.slice none 0 0], [2], .sl 163⟩
 (.node (.node (.node (.node .nil 56 ⟨1, 24, [.slice none 0 0], [5], .sl 166⟩
 .nil) 57 ⟨1, 24, [.slice none 0 0], [4], .sl 168⟩
 (.node .nil 58 ⟨13, 232, [.slice none 0 0, .slice none 0 0, .int .i64 0, .int .i64 0, .string ⟨#[]⟩, .string ⟨#[]⟩, .slice none 0 0, .int .i64 0, .slice none 0 0, .slice none 0 0, .slice none 0 0, .slice none 0 0, .int .i64 0], [4, 2, 0, 0, 0, 0, 2, 0, 10, 2, 5, 4, 0], .struct [(0, 22), (1, 23), (2, 53), (8, 54), (9, 55), (10, 56), (11, 57), (12, 3)]⟩
 .nil)) 59 ⟨13, 232, [.slice none 0 0, .slice none 0 0, .int .i64 0, .int .i64 0, .string ⟨#[]⟩, .string ⟨#[]⟩, .slice none 0 0, .int .i64 0, .slice none 0 0, .slice none 0 0, .slice none 0 0, .slice none 0 0, .int .i64 0], [4, 2, 0, 0, 0, 0, 2, 0, 10, 2, 5, 4, 0], .struct [(0, 22), (1, 23), (2, 53), (8, 54), (9, 55), (10, 56), (11, 57), (12, 3)]⟩
 (.node (.node .nil 60 ⟨1, 24, [.slice none 0 0], [4], .sl 171⟩
 .nil) 61 ⟨2, 32, [.int .i64 0, .slice none 0 0], [0, 4], .struct [(0, 3), (1, 60)]⟩
 .nil)) 62 ⟨2, 32, [.int .i64 0, .slice none 0 0], [0, 4], .struct [(0, 3), (1, 60)]⟩
 (.node (.node (.node .nil 63 ⟨1, 8, [.nilFunc], [0], .other⟩
 .nil) 64 ⟨1, 8, [.nilFunc], [0], .other⟩
 (.node .nil 65 ⟨1, 8, [.nilFunc], [0], .other⟩
 .nil)) 66 ⟨1, 8, [.nilFunc], [0], .other⟩
 (.node (.node .nil 67 ⟨1, 24, [.slice none 0 0], [4], .sl 180⟩
 .nil) 68 ⟨2, 32, [.int .i64 0, .slice none 0 0], [0, 4], .struct [(0, 3), (1, 67)]⟩
 .nil))))) 69 ⟨2, 32, [.int .i64 0, .slice none 0 0], [0, 4], .struct [(0, 3), (1, 67)]⟩
 (.node (.node (.node (.node (.node (.node .nil 70 ⟨1, 8, [.nilFunc], [0], .other⟩
 .nil) 71 ⟨1, 8, [.nilFunc], [0], .other⟩
 (.node .nil 72 ⟨1, 8, [.nilFunc], [0], .other⟩
 .nil)) 73 ⟨1, 8, [.nilFunc], [0], .other⟩
 (.node (.node .nil 74 ⟨1, 8, [.nilFunc], [0], .other⟩
 .nil) 75 ⟨1, 8, [.nilFunc], [0], .other⟩
 (.node .nil 76 ⟨1, 8, [.nilFunc], [0], .other⟩
 .nil))) 77 ⟨4, 40, [.string ⟨#[]⟩, .int .i64 0, .int .i64 0, .int .i64 0], [0, 0, 0, 0], .struct [(0, 9), (1, 3), (2, 3), (3, 3)]⟩
 (.node (.node (.node .nil 78 ⟨4, 40, [.string ⟨#[]⟩, .int .i64 0, .int .i64 0, .int .i64 0], [0, 0, 0, 0], .struct [(0, 9), (1, 3), (2, 3), (3, 3)]⟩
 .nil) 79 ⟨1, 8, [.nilFunc], [0], .other⟩
 (.node .nil 80 ⟨2, 24, [.string ⟨#[]⟩, .int .i64 0], [0, 0], .struct [(0, 9), (1, 3)]⟩
 .nil)) 81 ⟨2, 24, [.string ⟨#[]⟩, .int .i64 0], [0, 0], .struct [(0, 9), (1, 3)]⟩
 (.node (.node .nil 82 ⟨1, 8, [.nilFunc], [0], .other⟩
 .nil) 83 ⟨1, 8, [.nilFunc], [0], .other⟩
 .nil))) 84 ⟨4, 40, [.string ⟨#[]⟩, .int .i64 0, .int .i64 0, .int .i64 0], [0, 0, 0, 0], .struct [(0, 9), (1, 3), (2, 3), (3, 3)]⟩
 (.node (.node (.node (.node .nil 85 ⟨1, 8, [.nilFunc], [0], .other⟩
 .nil) 86 ⟨2, 24, [.string ⟨#[]⟩, .int .i64 0], [0, 0], .struct [(0, 9), (1, 3)]⟩
 (.node .nil 87 ⟨1, 8, [.nilFunc], [0], .other⟩
 .nil)) 88 ⟨1, 8, [.nilFunc], [0], .other⟩
 (.node (.node .nil 89 ⟨1, 8, [.nilFunc], [0], .other⟩
 .nil) 90 ⟨1, 8, [.nilFunc], [0], .other⟩
 .nil)) 91 ⟨1, 8, [.nilFunc], [0], .other⟩
 (.node (.node (.node .nil 92 ⟨1, 8, [.nilFunc], [0], .other⟩
 .nil) 93 ⟨1, 8, [.nilFunc], [0], .other⟩
 (.node .nil 94 ⟨1, 8, [.nilFunc], [0], .other⟩
 .nil)) 95 ⟨1, 8, [.nilFunc], [0], .other⟩
 (.node (.node .nil 96 ⟨1, 8, [.nilFunc], [0], .other⟩
 .nil) 97 ⟨1, 8, [.nilFunc], [0], .other⟩
 .nil)))) 98 ⟨1, 8, [.nilFunc], [0], .other⟩
 (.node (.node (.node (.node (.node .nil 99 ⟨1, 8, [.nilFunc], [0], .other⟩
 .nil) 100 ⟨1, 8, [.nilFunc], [0], .other⟩
 (.node .nil 101 ⟨1, 8, [.nilFunc], [0], .other⟩
 .nil)) 102 ⟨1, 8, [.nilFunc], [0], .other⟩
 (.node (.node .nil 103 ⟨1, 8, [.nilFunc], [0], .other⟩
 .nil) 104 ⟨1, 8, [.nilFunc], [0], .other⟩
 (.node .nil 105 ⟨1, 8, [.nilFunc], [0], .other⟩
 .nil))) 106 ⟨1, 8, [.nilFunc], [0], .other⟩
 (.node (.node (.node .nil 108 ⟨1, 8, [.nilFunc], [0], .other⟩
 .nil) 109 ⟨1, 8, [.nilFunc], [0], .other⟩
 (.node .nil 110 ⟨1, 8, [.nilFunc], [0], .other⟩
 .nil)) 111 ⟨1, 8, [.nilFunc], [0], .other⟩
 (.node (.node .nil 112 ⟨1, 8, [.nilFunc], [0], .other⟩
 .nil) 113 ⟨1, 8, [.nilFunc], [0], .other⟩
 .nil))) 114 ⟨1, 8, [.nilFunc], [0], .other⟩
 (.node (.node (.node (.node .nil 115 ⟨1, 8, [.nilFunc], [0], .other⟩
 .nil) 116 ⟨1, 8, [.nilFunc], [0], .other⟩
 (.node .nil 117 ⟨1, 24, [.slice none 0 0], [1], .sl 3⟩
 .nil)) 118 ⟨6, 88, [.int .i64 0, .int .i64 0, .string ⟨#[]⟩, .slice none 0 0, .slice none 0 0, .int .i64 0], [0, 0, 0, 2, 1, 0], .struct [(0, 29), (3, 30), (4, 117), (5, 3)]⟩
 (.node (.node .nil 119 ⟨6, 88, [.int .i64 0, .int .i64 0, .string ⟨#[]⟩, .slice none 0 0, .slice none 0 0, .int .i64 0], [0, 0, 0, 2, 1, 0], .struct [(0, 29), (3, 30), (4, 117), (5, 3)]⟩
 .nil) 120 ⟨10, 128, [.int .i64 0, .int .i64 0, .int .i64 0, .string ⟨#[]⟩, .slice none 0 0, .slice none 0 0, .int .i64 0, .string ⟨#[]⟩, .int .i64 0, .int .i64 0], [0, 0, 0, 0, 2, 1, 0, 0, 0, 0], .struct [(0, 3), (1, 119), (7, 9), (8, 3), (9, 3)]⟩
 .nil)) 121 ⟨10, 128, [.int .i64 0, .int .i64 0, .int .i64 0, .string ⟨#[]⟩, .slice none 0 0, .slice none 0 0, .int .i64 0, .string ⟨#[]⟩, .int .i64 0, .int .i64 0], [0, 0, 0, 0, 2, 1, 0, 0, 0, 0], .struct [(0, 3), (1, 119), (7, 9), (8, 3), (9, 3)]⟩
 (.node (.node (.node .nil 123 ⟨1, 8, [.nilFunc], [0], .other⟩
 .nil) 124 ⟨4, 40, [.int .i64 0, .int .i64 0, .int .i64 0, .string ⟨#[]⟩], [0, 0, 0, 0], .struct [(0, 3), (1, 3), (2, 3), (3, 9)]⟩
 (.node .nil 125 ⟨4, 40, [.int .i64 0, .int .i64 0, .int .i64 0, .string ⟨#[]⟩], [0, 0, 0, 0], .struct [(0, 3), (1, 3), (2, 3), (3, 9)]⟩
 .nil)) 126 ⟨1, 8, [.nilFunc], [0], .other⟩
 (.node (.node .nil 127 ⟨1, 8, [.nilFunc], [0], .other⟩
 .nil) 128 ⟨1, 8, [.nilFunc], [0], .other⟩
 .nil)))))) 129 ⟨1, 8, [.nilFunc], [0], .other⟩
 (.node (.node (.node (.node (.node (.node (.node .nil 130 ⟨1, 8, [.nilFunc], [0], .other⟩
 .nil) 131 ⟨1, 8, [.nilFunc], [0], .other⟩
 (.node .nil 132 ⟨1, 8, [.nilFunc], [0], .other⟩
 .nil)) 133 ⟨1, 8, [.nilFunc], [0], .other⟩
 (.node (.node .nil 134 ⟨1, 8, [.nilFunc], [0], .other⟩
 .nil) 135 ⟨1, 8, [.nilFunc], [0], .other⟩
 (.node .nil 136 ⟨1, 8, [.nilFunc], [0], .other⟩
 .nil))) 137 ⟨1, 8, [.nilFunc], [0], .other⟩
 (.node (.node (.node .nil 138 ⟨2, 24, [.string ⟨#[]⟩, .int .i64 0], [0, 0], .struct [(0, 9), (1, 3)]⟩
 .nil) 139 ⟨2, 24, [.string ⟨#[]⟩, .int .i64 0], [0, 0], .struct [(0, 9), (1, 3)]⟩
 (.node .nil 140 ⟨1, 8, [.nilFunc], [0], .other⟩
 .nil)) 141 ⟨1, 8, [.nilFunc], [0], .other⟩
 (.node (.node .nil 142 ⟨1, 8, [.nilFunc], [0], .other⟩
 .nil) 143 ⟨5, 56, [.int .i64 0, .int .i64 0, .int .i64 0, .slice none 0 0, .int .i64 0], [0, 0, 0, 4, 0], .struct [(0, 3), (1, 3), (2, 69), (4, 3)]⟩
 .nil))) 144 ⟨5, 56, [.int .i64 0, .int .i64 0, .int .i64 0, .slice none 0 0, .int .i64 0], [0, 0, 0, 4, 0], .struct [(0, 3), (1, 3), (2, 69), (4, 3)]⟩
 (.node (.node (.node (.node .nil 145 ⟨1, 8, [.nilFunc], [0], .other⟩
 .nil) 146 ⟨1, 8, [.nilFunc], [0], .other⟩
 (.node .nil 147 ⟨1, 8, [.nilFunc], [0], .other⟩
 .nil)) 148 ⟨1, 8, [.nilFunc], [0], .other⟩
 (.node (.node .nil 149 ⟨1, 8, [.nilFunc], [0], .other⟩
 .nil) 150 ⟨1, 8, [.nilFunc], [0], .other⟩
 .nil)) 151 ⟨1, 8, [.nilFunc], [0], .other⟩
 (.node (.node (.node .nil 152 ⟨1, 24, [.slice none 0 0], [1], .sl 5⟩
 .nil) 153 ⟨1, 8, [.nilFunc], [0], .other⟩
 (.node .nil 154 ⟨1, 8, [.nilFunc], [0], .other⟩
 .nil)) 155 ⟨1, 8, [.nilFunc], [0], .other⟩
 (.node (.node .nil 156 ⟨1, 8, [.nilFunc], [0], .other⟩
 .nil) 157 ⟨1, 8, [.nilFunc], [0], .other⟩
 .nil)))) 158 ⟨6, 88, [.int .i64 0, .int .i64 0, .string ⟨#[]⟩, .slice none 0 0, .slice none 0 0, .int .i64 0], [0, 0, 0, 2, 1, 0], .struct [(0, 50), (3, 51), (4, 117), (5, 3)]⟩
 (.node (.node (.node (.node (.node .nil 159 ⟨6, 88, [.int .i64 0, .int .i64 0, .string ⟨#[]⟩, .slice none 0 0, .slice none 0 0, .int .i64 0], [0, 0, 0, 2, 1, 0], .struct [(0, 50), (3, 51), (4, 117), (5, 3)]⟩
 .nil) 160 ⟨10, 128, [.int .i64 0, .int .i64 0, .int .i64 0, .string ⟨#[]⟩, .slice none 0 0, .slice none 0 0, .int .i64 0, .string ⟨#[]⟩, .int .i64 0, .int .i64 0], [0, 0, 0, 0, 2, 1, 0, 0, 0, 0], .struct [(0, 3), (1, 159), (7, 9), (8, 3), (9, 3)]⟩
 (.node .nil 161 ⟨10, 128, [.int .i64 0, .int .i64 0, .int .i64 0, .string ⟨#[]⟩, .slice none 0 0, .slice none 0 0, .int .i64 0, .string ⟨#[]⟩, .int .i64 0, .int .i64 0], [0, 0, 0, 0, 2, 1, 0, 0, 0, 0], .struct [(0, 3), (1, 159), (7, 9), (8, 3), (9, 3)]⟩
 .nil)) 162 ⟨1, 8, [.nilFunc], [0], .other⟩
 (.node (.node .nil 163 ⟨2, 24, [.string ⟨#[]⟩, .int .i64 0], [0, 0], .struct [(0, 9), (1, 3)]⟩
 .nil) 164 ⟨1, 8, [.nilFunc], [0], .other⟩
 (.node .nil 165 ⟨5, 56, [.int .i64 0, .int .i64 0, .int .i64 0, .slice none 0 0, .int .i64 0], [0, 0, 0, 4, 0], .struct [(0, 3), (1, 3), (2, 62), (4, 3)]⟩
 .nil))) 166 ⟨5, 56, [.int .i64 0, .int .i64 0, .int .i64 0, .slice none 0 0, .int .i64 0], [0, 0, 0, 4, 0], .struct [(0, 3), (1, 3), (2, 62), (4, 3)]⟩
 (.node (.node (.node .nil 167 ⟨1, 8, [.nilFunc], [0], .other⟩
 .nil) 168 ⟨4, 40, [.int .i64 0, .int .i64 0, .int .i64 0, .string ⟨#[]⟩], [0, 0, 0, 0], .struct [(0, 3), (1, 3), (2, 3), (3, 9)]⟩
 (.node .nil 169 ⟨1, 8, [.nilFunc], [0], .other⟩
 .nil)) 170 ⟨4, 40, [.int .i64 0, .string ⟨#[]⟩, .int .i64 0, .int .i64 0], [0, 0, 0, 0], .struct [(0, 3), (1, 9), (2, 3), (3, 3)]⟩
 (.node (.node .nil 171 ⟨4, 40, [.int .i64 0, .string ⟨#[]⟩, .int .i64 0, .int .i64 0], [0, 0, 0, 0], .struct [(0, 3), (1, 9), (2, 3), (3, 3)]⟩
 .nil) 172 ⟨1, 8, [.nilFunc], [0], .other⟩
 .nil))) 173 ⟨1, 8, [.nilFunc], [0], .other⟩
 (.node (.node (.node (.node .nil 174 ⟨1, 8, [.nilFunc], [0], .other⟩
 .nil) 175 ⟨1, 8, [.nilFunc], [0], .other⟩
 (.node .nil 176 ⟨1, 8, [.nilFunc], [0], .other⟩
 .nil)) 177 ⟨1, 8, [.nilFunc], [0], .other⟩
 (.node (.node .nil 178 ⟨1, 8, [.nilFunc], [0], .other⟩
 .nil) 179 ⟨1, 8, [.nilFunc], [0], .other⟩
 .nil)) 180 ⟨4, 40, [.int .i64 0, .string ⟨#[]⟩, .int .i64 0, .int .i64 0], [0, 0, 0, 0], .struct [(0, 3), (1, 9), (2, 3), (3, 3)]⟩
 (.node (.node (.node .nil 181 ⟨1, 8, [.nilFunc], [0], .other⟩
 .nil) 182 ⟨1, 8, [.nilFunc], [0], .other⟩
 (.node .nil 183 ⟨1, 8, [.nilFunc], [0], .other⟩
 .nil)) 184 ⟨1, 8, [.nilFunc], [0], .other⟩
 (.node (.node .nil 185 ⟨1, 8, [.nilFunc], [0], .other⟩
 .nil) 186 ⟨1, 8, [.nilFunc], [0], .other⟩
 .nil))))) 187 ⟨1, 8, [.nilFunc], [0], .other⟩
 (.node (.node (.node (.node (.node (.node .nil 188 ⟨1, 8, [.nilFunc], [0], .other⟩
 .nil) 189 ⟨1, 8, [.nilFunc], [0], .other⟩
 (.node .nil 190 ⟨1, 8, [.nilFunc], [0], .other⟩
 .nil)) 191 ⟨1, 24, [.slice none 0 0], [4], .sl 206⟩
 (.node (.node .nil 192 ⟨1, 8, [.nilFunc], [0], .other⟩
 .nil) 193 ⟨1, 8, [.nilFunc], [0], .other⟩
 (.node .nil 194 ⟨1, 8, [.nilFunc], [0], .other⟩
 .nil))) 195 ⟨1, 8, [.nilFunc], [0], .other⟩
 (.node (.node (.node .nil 196 ⟨1, 8, [.nilFunc], [0], .other⟩
 .nil) 197 ⟨1, 8, [.nilFunc], [0], .other⟩
 (.node .nil 198 ⟨1, 8, [.nilFunc], [0], .other⟩
 .nil)) 199 ⟨1, 8, [.nilFunc], [0], .other⟩
 (.node (.node .nil 200 ⟨1, 8, [.nilFunc], [0], .other⟩
 .nil) 201 ⟨1, 8, [.nilFunc], [0], .other⟩
 .nil))) 202 ⟨1, 8, [.nilFunc], [0], .other⟩
 (.node (.node (.node (.node .nil 203 ⟨1, 8, [.nilFunc], [0], .other⟩
 .nil) 204 ⟨1, 8, [.nilFunc], [0], .other⟩
 (.node .nil 205 ⟨4, 32, [.int .i64 0, .bool false, .int .i64 0, .int .i64 0], [0, 0, 0, 0], .struct [(0, 3), (1, 4), (2, 3), (3, 3)]⟩
 .nil)) 206 ⟨4, 32, [.int .i64 0, .bool false, .int .i64 0, .int .i64 0], [0, 0, 0, 0], .struct [(0, 3), (1, 4), (2, 3), (3, 3)]⟩
 (.node (.node .nil 207 ⟨1, 8, [.nilFunc], [0], .other⟩
 .nil) 208 ⟨1, 8, [.nilFunc], [0], .other⟩
 .nil)) 209 ⟨1, 8, [.nilFunc], [0], .other⟩
 (.node (.node (.node .nil 210 ⟨1, 8, [.nilFunc], [0], .other⟩
 .nil) 211 ⟨1, 8, [.nilFunc], [0], .other⟩
 (.node .nil 212 ⟨1, 8, [.nilFunc], [0], .other⟩
 .nil)) 213 ⟨1, 8, [.nilFunc], [0], .other⟩
 (.node (.node .nil 214 ⟨1, 8, [.nilFunc], [0], .other⟩
 .nil) 215 ⟨1, 8, [.nilFunc], [0], .other⟩
 .nil)))) 216 ⟨1, 8, [.nilFunc], [0], .other⟩
 (.node (.node (.node (.node (.node .nil 217 ⟨1, 8, [.nilFunc], [0], .other⟩
 .nil) 218 ⟨1, 24, [.slice none 0 0], [1], .sl 117⟩
 (.node .nil 219 ⟨1, 8, [.nilFunc], [0], .other⟩
 .nil)) 220 ⟨1, 8, [.map none], [0], .map 3 3⟩
 (.node (.node .nil 221 ⟨1, 8, [.nilFunc], [0], .other⟩
 .nil) 222 ⟨1, 24, [.slice none 0 0], [1], .sl 9⟩
 (.node .nil 223 ⟨1, 8, [.nilFunc], [0], .other⟩
 .nil))) 224 ⟨1, 8, [.nilFunc], [0], .other⟩
 (.node (.node (.node .nil 225 ⟨1, 8, [.nilFunc], [0], .other⟩
 .nil) 226 ⟨1, 8, [.nilFunc], [0], .other⟩
 (.node .nil 227 ⟨1, 24, [.slice none 0 0], [1], .sl 4⟩
 .nil)) 228 ⟨1, 8, [.nilFunc], [0], .other⟩
 (.node (.node .nil 229 ⟨1, 8, [.nilFunc], [0], .other⟩
 .nil) 230 ⟨1, 8, [.nilFunc], [0], .other⟩
 .nil))) 231 ⟨1, 8, [.nilFunc], [0], .other⟩
 (.node (.node (.node (.node .nil 232 ⟨1, 8, [.nilFunc], [0], .other⟩
 .nil) 233 ⟨1, 8, [.nilFunc], [0], .other⟩
 (.node .nil 234 ⟨1, 8, [.nilFunc], [0], .other⟩
 .nil)) 235 ⟨1, 8, [.nilFunc], [0], .other⟩
 (.node (.node .nil 236 ⟨1, 8, [.nilFunc], [0], .other⟩
 .nil) 242 ⟨1, 8, [.nilFunc], [0], .other⟩
 .nil)) 243 ⟨1, 4, [.int .u32 0], [0], .int .u32⟩
 (.node (.node (.node .nil 244 ⟨1, 1, [.int .u8 0], [0], .int .u8⟩
 .nil) 245 ⟨1, 1, [.int .u8 0], [0], .int .u8⟩
 (.node .nil 246 ⟨1, 8, [.nilFunc], [0], .other⟩
 .nil)) 248 ⟨1, 4, [.int .i32 0], [0], .int .i32⟩
 (.node (.node .nil 249 ⟨1, 4, [.int .i32 0], [0], .int .i32⟩
 .nil) 252 ⟨1, 8, [.nilFunc], [0], .other⟩
 .nil)))))))

theorem Tryz.tok : TOk Tryz.prog Tryz.tab := tok_of (by kernel_rfl)
theorem Tryz.mixed : Tryz.prog.follows .mixedOrders = true := by kernel_rfl
end Go.Proofs
