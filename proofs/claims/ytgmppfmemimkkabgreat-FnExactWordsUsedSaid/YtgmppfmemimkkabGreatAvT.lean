import Derived.Test.YtgmppfmemimkkabGreatAvZ
import Derived.Test.YtgmppfmemimkkabGreatProg
import Derived.KernelRfl
namespace Go.Proofs
open Go Go.Av
def Tryz.tab : Tab :=
(.node (.node (.node (.node (.node (.node (.node (.node .nil 1 ⟨1, 8, [.nilFunc], [0], .other⟩
 .nil) 2 ⟨1, 8, [.int .i64 0], [0], .int .i64⟩
 .nil) 3 ⟨1, 8, [.int .i64 0], [0], .int .i64⟩
 (.node (.node .nil 4 ⟨1, 1, [.bool false], [0], .bool⟩
 .nil) 5 ⟨1, 1, [.int .u8 0], [0], .int .u8⟩
 .nil)) 6 ⟨1, 1, [.int .u8 0], [0], .int .u8⟩
 (.node (.node (.node .nil 9 ⟨1, 16, [.string ⟨#[]⟩], [0], .str⟩
 .nil) 10 ⟨1, 16, [.string ⟨#[]⟩], [0], .str⟩
 .nil) 11 ⟨1, 16, [.string ⟨#[]⟩], [0], .str⟩
 (.node (.node .nil 12 ⟨1, 8, [.int .u64 0], [0], .int .u64⟩
 .nil) 21 ⟨1, 4, [.int .i32 0], [0], .int .i32⟩
 .nil))) 22 ⟨1, 24, [.slice none 0 0], [4], .sl 95⟩
 (.node (.node (.node (.node .nil 23 ⟨1, 24, [.slice none 0 0], [2], .sl 98⟩
 .nil) 24 ⟨3, 32, [.int .i64 0, .int .i64 0, .string ⟨#[]⟩], [0, 0, 0], .struct [(0, 3), (1, 3), (2, 9)]⟩
 .nil) 25 ⟨3, 32, [.int .i64 0, .int .i64 0, .string ⟨#[]⟩], [0, 0, 0], .struct [(0, 3), (1, 3), (2, 9)]⟩
 (.node (.node .nil 26 ⟨1, 24, [.slice none 0 0], [2], .sl 112⟩
 .nil) 27 ⟨6, 80, [.int .i64 0, .int .i64 0, .string ⟨#[]⟩, .string ⟨#[]⟩, .slice none 0 0, .int .i64 0], [0, 0, 0, 0, 2, 0], .struct [(0, 25), (3, 9), (4, 26), (5, 3)]⟩
 .nil)) 28 ⟨6, 80, [.int .i64 0, .int .i64 0, .string ⟨#[]⟩, .string ⟨#[]⟩, .slice none 0 0, .int .i64 0], [0, 0, 0, 0, 2, 0], .struct [(0, 25), (3, 9), (4, 26), (5, 3)]⟩
 (.node (.node (.node .nil 29 ⟨1, 24, [.slice none 0 0], [10], .sl 106⟩
 .nil) 30 ⟨1, 24, [.slice none 0 0], [2], .sl 108⟩
 .nil) 31 ⟨1, 24, [.slice none 0 0], [5], .sl 114⟩
 (.node .nil 32 ⟨1, 24, [.slice none 0 0], [4], .sl 117⟩
 .nil)))) 33 ⟨13, 232, [.slice none 0 0, .slice none 0 0, .int .i64 0, .int .i64 0, .string ⟨#[]⟩, .string ⟨#[]⟩, .slice none 0 0, .int .i64 0, .slice none 0 0, .slice none 0 0, .slice none 0 0, .slice none 0 0, .int .i64 0], [4, 2, 0, 0, 0, 0, 2, 0, 10, 2, 5, 4, 0], .struct [(0, 22), (1, 23), (2, 28), (8, 29), (9, 30), (10, 31), (11, 32), (12, 3)]⟩
 (.node (.node (.node (.node (.node .nil 34 ⟨13, 232, [.slice none 0 0, .slice none 0 0, .int .i64 0, .int .i64 0, .string ⟨#[]⟩, .string ⟨#[]⟩, .slice none 0 0, .int .i64 0, .slice none 0 0, .slice none 0 0, .slice none 0 0, .slice none 0 0, .int .i64 0], [4, 2, 0, 0, 0, 0, 2, 0, 10, 2, 5, 4, 0], .struct [(0, 22), (1, 23), (2, 28), (8, 29), (9, 30), (10, 31), (11, 32), (12, 3)]⟩
 .nil) 35 ⟨1, 8, [.nilFunc], [0], .other⟩
 .nil) 36 ⟨1, 24, [.slice none 0 0], [1], .sl 9⟩
 (.node (.node .nil 37 ⟨1, 8, [.nilFunc], [0], .other⟩
 .nil) 38 ⟨1, 24, [.slice none 0 0], [4], .sl 93⟩
 .nil)) 39 ⟨1, 24, [.slice none 0 0], [2], .sl 119⟩
 (.node (.node (.node .nil 40 ⟨3, 32, [.int .i64 0, .int .i64 0, .string ⟨#[]⟩], [0, 0, 0], .struct [(0, 3), (1, 3), (2, 9)]⟩
 .nil) 41 ⟨1, 24, [.slice none 0 0], [2], .sl 131⟩
 .nil) 42 ⟨6, 80, [.int .i64 0, .int .i64 0, .string ⟨#[]⟩, .string ⟨#[]⟩, .slice none 0 0, .int .i64 0], [0, 0, 0, 0, 2, 0], .struct [(0, 40), (3, 9), (4, 41), (5, 3)]⟩
 (.node (.node .nil 43 ⟨6, 80, [.int .i64 0, .int .i64 0, .string ⟨#[]⟩, .string ⟨#[]⟩, .slice none 0 0, .int .i64 0], [0, 0, 0, 0, 2, 0], .struct [(0, 40), (3, 9), (4, 41), (5, 3)]⟩
 .nil) 44 ⟨1, 24, [.slice none 0 0], [10], .sl 126⟩
 .nil))) 45 ⟨1, 24, [.slice none 0 0], [2], .sl 64⟩
 (.node (.node (.node (.node .nil 46 ⟨1, 24, [.slice none 0 0], [5], .sl 133⟩
 .nil) 47 ⟨1, 24, [.slice none 0 0], [4], .sl 135⟩
 .nil) 48 ⟨13, 232, [.slice none 0 0, .slice none 0 0, .int .i64 0, .int .i64 0, .string ⟨#[]⟩, .string ⟨#[]⟩, .slice none 0 0, .int .i64 0, .slice none 0 0, .slice none 0 0, .slice none 0 0, .slice none 0 0, .int .i64 0], [4, 2, 0, 0, 0, 0, 2, 0, 10, 2, 5, 4, 0], .struct [(0, 38), (1, 39), (2, 43), (8, 44), (9, 45), (10, 46), (11, 47), (12, 3)]⟩
 (.node (.node .nil 49 ⟨13, 232, [.slice none 0 0, .slice none 0 0, .int .i64 0, .int .i64 0, .string ⟨#[]⟩, .string ⟨#[]⟩, .slice none 0 0, .int .i64 0, .slice none 0 0, .slice none 0 0, .slice none 0 0, .slice none 0 0, .int .i64 0], [4, 2, 0, 0, 0, 0, 2, 0, 10, 2, 5, 4, 0], .struct [(0, 38), (1, 39), (2, 43), (8, 44), (9, 45), (10, 46), (11, 47), (12, 3)]⟩
 .nil) 50 ⟨1, 8, [.nilFunc], [0], .other⟩
 .nil)) 51 ⟨1, 8, [.nilFunc], [0], .other⟩
 (.node (.node (.node .nil 52 ⟨1, 8, [.nilFunc], [0], .other⟩
 .nil) 53 ⟨1, 8, [.nilFunc], [0], .other⟩
 .nil) 54 ⟨1, 8, [.nilFunc], [0], .other⟩
 (.node .nil 55 ⟨1, 8, [.nilFunc], [0], .other⟩
 .nil))))) 56 ⟨1, 8, [.nilFunc], [0], .other⟩
 (.node (.node (.node (.node (.node (.node .nil 57 ⟨1, 8, [.nilFunc], [0], .other⟩
 .nil) 58 ⟨1, 8, [.nilFunc], [0], .other⟩
 .nil) 59 ⟨1, 8, [.nilFunc], [0], .other⟩
 (.node (.node .nil 60 ⟨1, 8, [.nilFunc], [0], .other⟩
 .nil) 61 ⟨1, 8, [.nilFunc], [0], .other⟩
 .nil)) 62 ⟨1, 8, [.nilFunc], [0], .other⟩
 (.node (.node (.node .nil 63 ⟨2, 24, [.string ⟨#[]⟩, .int .i64 0], [0, 0], .struct [(0, 9), (1, 3)]⟩
 .nil) 64 ⟨2, 24, [.string ⟨#[]⟩, .int .i64 0], [0, 0], .struct [(0, 9), (1, 3)]⟩
 .nil) 65 ⟨1, 8, [.nilFunc], [0], .other⟩
 (.node (.node .nil 66 ⟨1, 8, [.nilFunc], [0], .other⟩
 .nil) 67 ⟨1, 8, [.nilFunc], [0], .other⟩
 .nil))) 68 ⟨1, 8, [.nilFunc], [0], .other⟩
 (.node (.node (.node (.node .nil 69 ⟨1, 8, [.nilFunc], [0], .other⟩
 .nil) 70 ⟨1, 8, [.nilFunc], [0], .other⟩
 .nil) 71 ⟨1, 8, [.nilFunc], [0], .other⟩
 (.node (.node .nil 72 ⟨1, 8, [.nilFunc], [0], .other⟩
 .nil) 73 ⟨1, 8, [.nilFunc], [0], .other⟩
 .nil)) 74 ⟨1, 8, [.nilFunc], [0], .other⟩
 (.node (.node (.node .nil 75 ⟨1, 8, [.nilFunc], [0], .other⟩
 .nil) 76 ⟨1, 8, [.nilFunc], [0], .other⟩
 .nil) 77 ⟨1, 8, [.nilFunc], [0], .other⟩
 (.node .nil 78 ⟨1, 8, [.nilFunc], [0], .other⟩
 .nil)))) 79 ⟨1, 8, [.nilFunc], [0], .other⟩
 (.node (.node (.node (.node (.node .nil 80 ⟨1, 8, [.nilFunc], [0], .other⟩
 .nil) 81 ⟨1, 8, [.nilFunc], [0], .other⟩
 .nil) 82 ⟨1, 8, [.nilFunc], [0], .other⟩
 (.node (.node .nil 83 ⟨1, 8, [.nilFunc], [0], .other⟩
 .nil) 84 ⟨1, 8, [.nilFunc], [0], .other⟩
 .nil)) 85 ⟨1, 8, [.nilFunc], [0], .other⟩
 (.node (.node (.node .nil 86 ⟨1, 8, [.nilFunc], [0], .other⟩
 .nil) 87 ⟨1, 8, [.nilFunc], [0], .other⟩
 .nil) 88 ⟨1, 8, [.nilFunc], [0], .other⟩
 (.node (.node .nil 89 ⟨1, 8, [.nilFunc], [0], .other⟩
 .nil) 90 ⟨1, 8, [.nilFunc], [0], .other⟩
 .nil))) 91 ⟨1, 8, [.nilFunc], [0], .other⟩
 (.node (.node (.node (.node .nil 92 ⟨4, 40, [.string ⟨#[]⟩, .int .i64 0, .int .i64 0, .int .i64 0], [0, 0, 0, 0], .struct [(0, 9), (1, 3), (2, 3), (3, 3)]⟩
 .nil) 93 ⟨4, 40, [.string ⟨#[]⟩, .int .i64 0, .int .i64 0, .int .i64 0], [0, 0, 0, 0], .struct [(0, 9), (1, 3), (2, 3), (3, 3)]⟩
 .nil) 94 ⟨1, 8, [.nilFunc], [0], .other⟩
 (.node (.node .nil 95 ⟨4, 40, [.string ⟨#[]⟩, .int .i64 0, .int .i64 0, .int .i64 0], [0, 0, 0, 0], .struct [(0, 9), (1, 3), (2, 3), (3, 3)]⟩
 .nil) 96 ⟨1, 8, [.nilFunc], [0], .other⟩
 .nil)) 97 ⟨2, 24, [.string ⟨#[]⟩, .int .i64 0], [0, 0], .struct [(0, 9), (1, 3)]⟩
 (.node (.node (.node .nil 98 ⟨2, 24, [.string ⟨#[]⟩, .int .i64 0], [0, 0], .struct [(0, 9), (1, 3)]⟩
 .nil) 99 ⟨1, 8, [.nilFunc], [0], .other⟩
 .nil) 100 ⟨1, 8, [.nilFunc], [0], .other⟩
 (.node .nil 101 ⟨1, 8, [.nilFunc], [0], .other⟩
 .nil)))))) 102 ⟨1, 24, [.slice none 0 0], [1], .sl 3⟩
 (.node (.node (.node (.node (.node (.node (.node .nil 103 ⟨6, 88, [.int .i64 0, .int .i64 0, .string ⟨#[]⟩, .slice none 0 0, .slice none 0 0, .int .i64 0], [0, 0, 0, 2, 1, 0], .struct [(0, 25), (3, 26), (4, 102), (5, 3)]⟩
 .nil) 104 ⟨6, 88, [.int .i64 0, .int .i64 0, .string ⟨#[]⟩, .slice none 0 0, .slice none 0 0, .int .i64 0], [0, 0, 0, 2, 1, 0], .struct [(0, 25), (3, 26), (4, 102), (5, 3)]⟩
 .nil) 105 ⟨10, 128, [.int .i64 0, .int .i64 0, .int .i64 0, .string ⟨#[]⟩, .slice none 0 0, .slice none 0 0, .int .i64 0, .string ⟨#[]⟩, .int .i64 0, .int .i64 0], [0, 0, 0, 0, 2, 1, 0, 0, 0, 0], .struct [(0, 3), (1, 104), (7, 9), (8, 3), (9, 3)]⟩
 (.node (.node .nil 106 ⟨10, 128, [.int .i64 0, .int .i64 0, .int .i64 0, .string ⟨#[]⟩, .slice none 0 0, .slice none 0 0, .int .i64 0, .string ⟨#[]⟩, .int .i64 0, .int .i64 0], [0, 0, 0, 0, 2, 1, 0, 0, 0, 0], .struct [(0, 3), (1, 104), (7, 9), (8, 3), (9, 3)]⟩
 .nil) 107 ⟨1, 8, [.nilFunc], [0], .other⟩
 .nil)) 108 ⟨2, 24, [.string ⟨#[]⟩, .int .i64 0], [0, 0], .struct [(0, 9), (1, 3)]⟩
 (.node (.node (.node .nil 109 ⟨1, 8, [.nilFunc], [0], .other⟩
 .nil) 110 ⟨1, 24, [.slice none 0 0], [4], .sl 185⟩
 .nil) 111 ⟨2, 32, [.int .i64 0, .slice none 0 0], [0, 4], .struct [(0, 3), (1, 110)]⟩
 (.node (.node .nil 112 ⟨2, 32, [.int .i64 0, .slice none 0 0], [0, 4], .struct [(0, 3), (1, 110)]⟩
 .nil) 113 ⟨5, 56, [.int .i64 0, .int .i64 0, .int .i64 0, .slice none 0 0, .int .i64 0], [0, 0, 0, 4, 0], .struct [(0, 3), (1, 3), (2, 112), (4, 3)]⟩
 .nil))) 114 ⟨5, 56, [.int .i64 0, .int .i64 0, .int .i64 0, .slice none 0 0, .int .i64 0], [0, 0, 0, 4, 0], .struct [(0, 3), (1, 3), (2, 112), (4, 3)]⟩
 (.node (.node (.node (.node .nil 115 ⟨1, 8, [.nilFunc], [0], .other⟩
 .nil) 116 ⟨4, 40, [.int .i64 0, .int .i64 0, .int .i64 0, .string ⟨#[]⟩], [0, 0, 0, 0], .struct [(0, 3), (1, 3), (2, 3), (3, 9)]⟩
 .nil) 117 ⟨4, 40, [.int .i64 0, .int .i64 0, .int .i64 0, .string ⟨#[]⟩], [0, 0, 0, 0], .struct [(0, 3), (1, 3), (2, 3), (3, 9)]⟩
 (.node (.node .nil 118 ⟨1, 8, [.nilFunc], [0], .other⟩
 .nil) 119 ⟨2, 24, [.string ⟨#[]⟩, .int .i64 0], [0, 0], .struct [(0, 9), (1, 3)]⟩
 .nil)) 120 ⟨1, 8, [.nilFunc], [0], .other⟩
 (.node (.node (.node .nil 121 ⟨1, 8, [.nilFunc], [0], .other⟩
 .nil) 122 ⟨1, 8, [.nilFunc], [0], .other⟩
 .nil) 123 ⟨6, 88, [.int .i64 0, .int .i64 0, .string ⟨#[]⟩, .slice none 0 0, .slice none 0 0, .int .i64 0], [0, 0, 0, 2, 1, 0], .struct [(0, 40), (3, 41), (4, 102), (5, 3)]⟩
 (.node .nil 124 ⟨6, 88, [.int .i64 0, .int .i64 0, .string ⟨#[]⟩, .slice none 0 0, .slice none 0 0, .int .i64 0], [0, 0, 0, 2, 1, 0], .struct [(0, 40), (3, 41), (4, 102), (5, 3)]⟩
 .nil)))) 125 ⟨10, 128, [.int .i64 0, .int .i64 0, .int .i64 0, .string ⟨#[]⟩, .slice none 0 0, .slice none 0 0, .int .i64 0, .string ⟨#[]⟩, .int .i64 0, .int .i64 0], [0, 0, 0, 0, 2, 1, 0, 0, 0, 0], .struct [(0, 3), (1, 124), (7, 9), (8, 3), (9, 3)]⟩
 (.node (.node (.node (.node (.node .nil 126 ⟨10, 128, [.int .i64 0, .int .i64 0, .int .i64 0, .string ⟨#[]⟩, .slice none 0 0, .slice none 0 0, .int .i64 0, .string ⟨#[]⟩, .int .i64 0, .int .i64 0], [0, 0, 0, 0, 2, 1, 0, 0, 0, 0], .struct [(0, 3), (1, 124), (7, 9), (8, 3), (9, 3)]⟩
 .nil) 127 ⟨1, 8, [.nilFunc], [0], .other⟩
 .nil) 128 ⟨1, 8, [.nilFunc], [0], .other⟩
 (.node (.node .nil 129 ⟨1, 24, [.slice none 0 0], [4], .sl 172⟩
 .nil) 130 ⟨2, 32, [.int .i64 0, .slice none 0 0], [0, 4], .struct [(0, 3), (1, 129)]⟩
 .nil)) 131 ⟨2, 32, [.int .i64 0, .slice none 0 0], [0, 4], .struct [(0, 3), (1, 129)]⟩
 (.node (.node (.node .nil 132 ⟨5, 56, [.int .i64 0, .int .i64 0, .int .i64 0, .slice none 0 0, .int .i64 0], [0, 0, 0, 4, 0], .struct [(0, 3), (1, 3), (2, 131), (4, 3)]⟩
 .nil) 133 ⟨5, 56, [.int .i64 0, .int .i64 0, .int .i64 0, .slice none 0 0, .int .i64 0], [0, 0, 0, 4, 0], .struct [(0, 3), (1, 3), (2, 131), (4, 3)]⟩
 .nil) 134 ⟨1, 8, [.nilFunc], [0], .other⟩
 (.node (.node .nil 135 ⟨4, 40, [.int .i64 0, .int .i64 0, .int .i64 0, .string ⟨#[]⟩], [0, 0, 0, 0], .struct [(0, 3), (1, 3), (2, 3), (3, 9)]⟩
 .nil) 136 ⟨1, 8, [.nilFunc], [0], .other⟩
 .nil))) 137 ⟨1, 8, [.nilFunc], [0], .other⟩
 (.node (.node (.node (.node .nil 138 ⟨1, 8, [.nilFunc], [0], .other⟩
 .nil) 139 ⟨1, 8, [.int .u64 0], [0], .int .u64⟩
 .nil) 140 ⟨1, 8, [.nilFunc], [0], .other⟩
 (.node (.node .nil 141 ⟨1, 8, [.nilFunc], [0], .other⟩
 .nil) 142 ⟨1, 8, [.nilFunc], [0], .other⟩
 .nil)) 143 ⟨1, 8, [.nilFunc], [0], .other⟩
 (.node (.node (.node .nil 144 ⟨1, 8, [.nilFunc], [0], .other⟩
 .nil) 145 ⟨1, 8, [.nilFunc], [0], .other⟩
 .nil) 146 ⟨1, 8, [.nilFunc], [0], .other⟩
 (.node .nil 147 ⟨1, 8, [.nilFunc], [0], .other⟩
 .nil))))) 148 ⟨1, 8, [.nilFunc], [0], .other⟩
 (.node (.node (.node (.node (.node (.node .nil 149 ⟨1, 8, [.nilFunc], [0], .other⟩
 .nil) 150 ⟨1, 8, [.nilFunc], [0], .other⟩
 .nil) 151 ⟨1, 24, [.slice none 0 0], [1], .sl 5⟩
 (.node (.node .nil 152 ⟨1, 8, [.nilFunc], [0], .other⟩
 .nil) 153 ⟨1, 8, [.nilFunc], [0], .other⟩
 .nil)) 154 ⟨1, 8, [.nilFunc], [0], .other⟩
 (.node (.node (.node .nil 155 ⟨1, 8, [.nilFunc], [0], .other⟩
 .nil) 156 ⟨1, 8, [.nilFunc], [0], .other⟩
 .nil) 157 ⟨1, 8, [.nilFunc], [0], .other⟩
 (.node (.node .nil 158 ⟨1, 8, [.int .i64 0], [0], .int .i64⟩
 .nil) 160 ⟨1, 8, [.nilFunc], [0], .other⟩
 .nil))) 161 ⟨1, 8, [.nilFunc], [0], .other⟩
 (.node (.node (.node (.node .nil 162 ⟨1, 8, [.nilFunc], [0], .other⟩
 .nil) 164 ⟨1, 8, [.nilFunc], [0], .other⟩
 .nil) 165 ⟨1, 8, [.nilFunc], [0], .other⟩
 (.node (.node .nil 166 ⟨1, 4, [.int .u32 0], [0], .int .u32⟩
 .nil) 167 ⟨1, 8, [.nilFunc], [0], .other⟩
 .nil)) 168 ⟨1, 8, [.int .u64 0], [0], .int .u64⟩
 (.node (.node (.node .nil 169 ⟨1, 8, [.nilFunc], [0], .other⟩
 .nil) 170 ⟨1, 8, [.nilFunc], [0], .other⟩
 .nil) 171 ⟨4, 40, [.int .i64 0, .string ⟨#[]⟩, .int .i64 0, .int .i64 0], [0, 0, 0, 0], .struct [(0, 3), (1, 9), (2, 3), (3, 3)]⟩
 (.node .nil 172 ⟨4, 40, [.int .i64 0, .string ⟨#[]⟩, .int .i64 0, .int .i64 0], [0, 0, 0, 0], .struct [(0, 3), (1, 9), (2, 3), (3, 3)]⟩
 .nil)))) 173 ⟨1, 8, [.nilFunc], [0], .other⟩
 (.node (.node (.node (.node (.node .nil 174 ⟨1, 8, [.nilFunc], [0], .other⟩
 .nil) 175 ⟨1, 8, [.nilFunc], [0], .other⟩
 .nil) 176 ⟨1, 8, [.int .u64 0], [0], .int .u64⟩
 (.node (.node .nil 177 ⟨1, 8, [.nilFunc], [0], .other⟩
 .nil) 178 ⟨1, 8, [.nilFunc], [0], .other⟩
 .nil)) 179 ⟨1, 8, [.nilFunc], [0], .other⟩
 (.node (.node (.node .nil 181 ⟨1, 8, [.nilFunc], [0], .other⟩
 .nil) 182 ⟨1, 8, [.nilFunc], [0], .other⟩
 .nil) 183 ⟨1, 8, [.nilFunc], [0], .other⟩
 (.node (.node .nil 184 ⟨1, 8, [.nilFunc], [0], .other⟩
 .nil) 185 ⟨4, 40, [.int .i64 0, .string ⟨#[]⟩, .int .i64 0, .int .i64 0], [0, 0, 0, 0], .struct [(0, 3), (1, 9), (2, 3), (3, 3)]⟩
 .nil))) 186 ⟨1, 8, [.nilFunc], [0], .other⟩
 (.node (.node (.node (.node .nil 189 ⟨1, 8, [.nilFunc], [0], .other⟩
 .nil) 190 ⟨1, 8, [.nilFunc], [0], .other⟩
 .nil) 191 ⟨1, 8, [.nilFunc], [0], .other⟩
 (.node (.node .nil 197 ⟨1, 8, [.nilFunc], [0], .other⟩
 .nil) 198 ⟨1, 1, [.int .u8 0], [0], .int .u8⟩
 .nil)) 199 ⟨1, 1, [.int .u8 0], [0], .int .u8⟩
 (.node (.node (.node .nil 200 ⟨1, 8, [.nilFunc], [0], .other⟩
 .nil) 202 ⟨1, 4, [.int .i32 0], [0], .int .i32⟩
 .nil) 203 ⟨1, 4, [.int .i32 0], [0], .int .i32⟩
 (.node .nil 206 ⟨1, 8, [.nilFunc], [0], .other⟩
 .nil)))))))

theorem Tryz.tok : TOk Tryz.prog Tryz.tab := tok_of (by kernel_rfl)
theorem Tryz.mixed : Tryz.prog.follows .mixedOrders = true := by kernel_rfl
end Go.Proofs
