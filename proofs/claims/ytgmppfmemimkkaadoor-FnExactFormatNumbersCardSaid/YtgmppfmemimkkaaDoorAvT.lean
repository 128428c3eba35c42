import Derived.Test.YtgmppfmemimkkaaDoorAvZ
import Derived.Test.YtgmppfmemimkkaaDoorProg
import Derived.KernelRfl
namespace Go.Proofs
open Go Go.Av
def Tryd.tab : Tab :=
(.node (.node (.node (.node (.node (.node (.node (.node .nil 1 ⟨1, 8, [.nilFunc], [0], .other⟩
 .nil) 2 ⟨1, 8, [.int .i64 0], [0], .int .i64⟩
 .nil) 3 ⟨1, 8, [.int .i64 0], [0], .int .i64⟩
 (.node (.node .nil 4 ⟨1, 1, [.bool false], [0], .bool⟩
 .nil) 5 ⟨1, 1, [.int .u8 0], [0], .int .u8⟩
 .nil)) 6 ⟨1, 1, [.int .u8 0], [0], .int .u8⟩
 (.node (.node (.node .nil 9 ⟨1, 16, [.string ⟨#[]⟩], [0], .str⟩
 .nil) 10 ⟨1, 16, [.string ⟨#[]⟩], [0], .str⟩
 .nil) 11 ⟨1, 16, [.string ⟨#[]⟩], [0], .str⟩
 (.node .nil 12 ⟨1, 8, [.int .u64 0], [0], .int .u64⟩
 .nil))) 21 ⟨1, 4, [.int .i32 0], [0], .int .i32⟩
 (.node (.node (.node (.node .nil 22 ⟨1, 24, [.slice none 0 0], [1], .sl 3⟩
 .nil) 23 ⟨1, 8, [.nilFunc], [0], .other⟩
 .nil) 24 ⟨1, 8, [.nilFunc], [0], .other⟩
 (.node (.node .nil 25 ⟨1, 8, [.nilFunc], [0], .other⟩
 .nil) 26 ⟨1, 8, [.nilFunc], [0], .other⟩
 .nil)) 27 ⟨3, 32, [.int .i64 0, .int .i64 0, .string ⟨#[]⟩], [0, 0, 0], .struct [(0, 3), (1, 3), (2, 9)]⟩
 (.node (.node (.node .nil 28 ⟨3, 32, [.int .i64 0, .int .i64 0, .string ⟨#[]⟩], [0, 0, 0], .struct [(0, 3), (1, 3), (2, 9)]⟩
 .nil) 29 ⟨1, 8, [.nilFunc], [0], .other⟩
 .nil) 30 ⟨1, 8, [.nilFunc], [0], .other⟩
 (.node .nil 31 ⟨3, 32, [.int .i64 0, .int .i64 0, .string ⟨#[]⟩], [0, 0, 0], .struct [(0, 3), (1, 3), (2, 9)]⟩
 .nil)))) 32 ⟨1, 8, [.nilFunc], [0], .other⟩
 (.node (.node (.node (.node (.node .nil 33 ⟨1, 8, [.nilFunc], [0], .other⟩
 .nil) 34 ⟨1, 24, [.slice none 0 0], [4], .sl 95⟩
 .nil) 35 ⟨1, 24, [.slice none 0 0], [2], .sl 98⟩
 (.node (.node .nil 36 ⟨1, 24, [.slice none 0 0], [2], .sl 111⟩
 .nil) 37 ⟨6, 80, [.int .i64 0, .int .i64 0, .string ⟨#[]⟩, .string ⟨#[]⟩, .slice none 0 0, .int .i64 0], [0, 0, 0, 0, 2, 0], .struct [(0, 28), (3, 9), (4, 36), (5, 3)]⟩
 .nil)) 38 ⟨6, 80, [.int .i64 0, .int .i64 0, .string ⟨#[]⟩, .string ⟨#[]⟩, .slice none 0 0, .int .i64 0], [0, 0, 0, 0, 2, 0], .struct [(0, 28), (3, 9), (4, 36), (5, 3)]⟩
 (.node (.node (.node .nil 39 ⟨1, 24, [.slice none 0 0], [10], .sl 104⟩
 .nil) 40 ⟨1, 24, [.slice none 0 0], [2], .sl 107⟩
 .nil) 41 ⟨1, 24, [.slice none 0 0], [5], .sl 113⟩
 (.node .nil 42 ⟨1, 24, [.slice none 0 0], [4], .sl 116⟩
 .nil))) 43 ⟨13, 232, [.slice none 0 0, .slice none 0 0, .int .i64 0, .int .i64 0, .string ⟨#[]⟩, .string ⟨#[]⟩, .slice none 0 0, .int .i64 0, .slice none 0 0, .slice none 0 0, .slice none 0 0, .slice none 0 0, .int .i64 0], [4, 2, 0, 0, 0, 0, 2, 0, 10, 2, 5, 4, 0], .struct [(0, 34), (1, 35), (2, 38), (8, 39), (9, 40), (10, 41), (11, 42), (12, 3)]⟩
 (.node (.node (.node (.node .nil 44 ⟨13, 232, [.slice none 0 0, .slice none 0 0, .int .i64 0, .int .i64 0, .string ⟨#[]⟩, .string ⟨#[]⟩, .slice none 0 0, .int .i64 0, .slice none 0 0, .slice none 0 0, .slice none 0 0, .slice none 0 0, .int .i64 0], [4, 2, 0, 0, 0, 0, 2, 0, 10, 2, 5, 4, 0], .struct [(0, 34), (1, 35), (2, 38), (8, 39), (9, 40), (10, 41), (11, 42), (12, 3)]⟩
 .nil) 45 ⟨1, 8, [.nilFunc], [0], .other⟩
 .nil) 46 ⟨1, 8, [.nilFunc], [0], .other⟩
 (.node (.node .nil 47 ⟨1, 24, [.slice none 0 0], [4], .sl 117⟩
 .nil) 48 ⟨1, 24, [.slice none 0 0], [2], .sl 119⟩
 .nil)) 49 ⟨1, 24, [.slice none 0 0], [2], .sl 131⟩
 (.node (.node (.node .nil 50 ⟨6, 80, [.int .i64 0, .int .i64 0, .string ⟨#[]⟩, .string ⟨#[]⟩, .slice none 0 0, .int .i64 0], [0, 0, 0, 0, 2, 0], .struct [(0, 31), (3, 9), (4, 49), (5, 3)]⟩
 .nil) 51 ⟨6, 80, [.int .i64 0, .int .i64 0, .string ⟨#[]⟩, .string ⟨#[]⟩, .slice none 0 0, .int .i64 0], [0, 0, 0, 0, 2, 0], .struct [(0, 31), (3, 9), (4, 49), (5, 3)]⟩
 .nil) 52 ⟨1, 24, [.slice none 0 0], [10], .sl 125⟩
 (.node .nil 53 ⟨1, 24, [.slice none 0 0], [2], .sl 127⟩
 .nil))))) 54 ⟨1, 24, [.slice none 0 0], [5], .sl 133⟩
 (.node (.node (.node (.node (.node (.node .nil 55 ⟨1, 24, [.slice none 0 0], [4], .sl 135⟩
 .nil) 56 ⟨13, 232, [.slice none 0 0, .slice none 0 0, .int .i64 0, .int .i64 0, .string ⟨#[]⟩, .string ⟨#[]⟩, .slice none 0 0, .int .i64 0, .slice none 0 0, .slice none 0 0, .slice none 0 0, .slice none 0 0, .int .i64 0], [4, 2, 0, 0, 0, 0, 2, 0, 10, 2, 5, 4, 0], .struct [(0, 47), (1, 48), (2, 51), (8, 52), (9, 53), (10, 54), (11, 55), (12, 3)]⟩
 .nil) 57 ⟨13, 232, [.slice none 0 0, .slice none 0 0, .int .i64 0, .int .i64 0, .string ⟨#[]⟩, .string ⟨#[]⟩, .slice none 0 0, .int .i64 0, .slice none 0 0, .slice none 0 0, .slice none 0 0, .slice none 0 0, .int .i64 0], [4, 2, 0, 0, 0, 0, 2, 0, 10, 2, 5, 4, 0], .struct [(0, 47), (1, 48), (2, 51), (8, 52), (9, 53), (10, 54), (11, 55), (12, 3)]⟩
 (.node (.node .nil 58 ⟨1, 8, [.nilFunc], [0], .other⟩
 .nil) 59 ⟨1, 8, [.nilFunc], [0], .other⟩
 .nil)) 60 ⟨1, 8, [.nilFunc], [0], .other⟩
 (.node (.node (.node .nil 61 ⟨1, 24, [.slice none 0 0], [1], .sl 9⟩
 .nil) 62 ⟨1, 8, [.nilFunc], [0], .other⟩
 .nil) 63 ⟨1, 8, [.nilFunc], [0], .other⟩
 (.node .nil 64 ⟨1, 24, [.slice none 0 0], [4], .sl 68⟩
 .nil))) 65 ⟨1, 8, [.nilFunc], [0], .other⟩
 (.node (.node (.node (.node .nil 66 ⟨1, 8, [.nilFunc], [0], .other⟩
 .nil) 67 ⟨4, 32, [.int .i64 0, .bool false, .int .i64 0, .int .i64 0], [0, 0, 0, 0], .struct [(0, 3), (1, 4), (2, 3), (3, 3)]⟩
 .nil) 68 ⟨4, 32, [.int .i64 0, .bool false, .int .i64 0, .int .i64 0], [0, 0, 0, 0], .struct [(0, 3), (1, 4), (2, 3), (3, 3)]⟩
 (.node (.node .nil 69 ⟨1, 8, [.nilFunc], [0], .other⟩
 .nil) 70 ⟨1, 8, [.nilFunc], [0], .other⟩
 .nil)) 71 ⟨1, 8, [.nilFunc], [0], .other⟩
 (.node (.node (.node .nil 72 ⟨1, 8, [.nilFunc], [0], .other⟩
 .nil) 73 ⟨1, 8, [.nilFunc], [0], .other⟩
 .nil) 74 ⟨1, 8, [.nilFunc], [0], .other⟩
 (.node .nil 75 ⟨1, 8, [.nilFunc], [0], .other⟩
 .nil)))) 76 ⟨1, 8, [.nilFunc], [0], .other⟩
 (.node (.node (.node (.node (.node .nil 77 ⟨1, 8, [.nilFunc], [0], .other⟩
 .nil) 78 ⟨1, 8, [.nilFunc], [0], .other⟩
 .nil) 79 ⟨1, 8, [.nilFunc], [0], .other⟩
 (.node (.node .nil 80 ⟨1, 8, [.nilFunc], [0], .other⟩
 .nil) 81 ⟨1, 8, [.nilFunc], [0], .other⟩
 .nil)) 82 ⟨1, 8, [.nilFunc], [0], .other⟩
 (.node (.node (.node .nil 83 ⟨1, 8, [.nilFunc], [0], .other⟩
 .nil) 84 ⟨1, 8, [.nilFunc], [0], .other⟩
 .nil) 85 ⟨1, 8, [.nilFunc], [0], .other⟩
 (.node .nil 86 ⟨1, 8, [.nilFunc], [0], .other⟩
 .nil))) 87 ⟨1, 8, [.nilFunc], [0], .other⟩
 (.node (.node (.node (.node .nil 88 ⟨1, 8, [.nilFunc], [0], .other⟩
 .nil) 89 ⟨1, 8, [.nilFunc], [0], .other⟩
 .nil) 90 ⟨1, 24, [.slice none 0 0], [1], .sl 5⟩
 (.node (.node .nil 91 ⟨1, 8, [.nilFunc], [0], .other⟩
 .nil) 92 ⟨1, 8, [.nilFunc], [0], .other⟩
 .nil)) 93 ⟨1, 8, [.nilFunc], [0], .other⟩
 (.node (.node (.node .nil 94 ⟨4, 40, [.string ⟨#[]⟩, .int .i64 0, .int .i64 0, .int .i64 0], [0, 0, 0, 0], .struct [(0, 9), (1, 3), (2, 3), (3, 3)]⟩
 .nil) 95 ⟨4, 40, [.string ⟨#[]⟩, .int .i64 0, .int .i64 0, .int .i64 0], [0, 0, 0, 0], .struct [(0, 9), (1, 3), (2, 3), (3, 3)]⟩
 .nil) 96 ⟨1, 8, [.nilFunc], [0], .other⟩
 (.node .nil 97 ⟨2, 24, [.string ⟨#[]⟩, .int .i64 0], [0, 0], .struct [(0, 9), (1, 3)]⟩
 .nil)))))) 98 ⟨2, 24, [.string ⟨#[]⟩, .int .i64 0], [0, 0], .struct [(0, 9), (1, 3)]⟩
 (.node (.node (.node (.node (.node (.node (.node .nil 99 ⟨1, 8, [.nilFunc], [0], .other⟩
 .nil) 100 ⟨1, 8, [.nilFunc], [0], .other⟩
 .nil) 101 ⟨6, 88, [.int .i64 0, .int .i64 0, .string ⟨#[]⟩, .slice none 0 0, .slice none 0 0, .int .i64 0], [0, 0, 0, 2, 1, 0], .struct [(0, 28), (3, 36), (4, 22), (5, 3)]⟩
 (.node (.node .nil 102 ⟨6, 88, [.int .i64 0, .int .i64 0, .string ⟨#[]⟩, .slice none 0 0, .slice none 0 0, .int .i64 0], [0, 0, 0, 2, 1, 0], .struct [(0, 28), (3, 36), (4, 22), (5, 3)]⟩
 .nil) 103 ⟨10, 128, [.int .i64 0, .int .i64 0, .int .i64 0, .string ⟨#[]⟩, .slice none 0 0, .slice none 0 0, .int .i64 0, .string ⟨#[]⟩, .int .i64 0, .int .i64 0], [0, 0, 0, 0, 2, 1, 0, 0, 0, 0], .struct [(0, 3), (1, 102), (7, 9), (8, 3), (9, 3)]⟩
 .nil)) 104 ⟨10, 128, [.int .i64 0, .int .i64 0, .int .i64 0, .string ⟨#[]⟩, .slice none 0 0, .slice none 0 0, .int .i64 0, .string ⟨#[]⟩, .int .i64 0, .int .i64 0], [0, 0, 0, 0, 2, 1, 0, 0, 0, 0], .struct [(0, 3), (1, 102), (7, 9), (8, 3), (9, 3)]⟩
 (.node (.node (.node .nil 105 ⟨1, 8, [.nilFunc], [0], .other⟩
 .nil) 106 ⟨2, 24, [.string ⟨#[]⟩, .int .i64 0], [0, 0], .struct [(0, 9), (1, 3)]⟩
 .nil) 107 ⟨2, 24, [.string ⟨#[]⟩, .int .i64 0], [0, 0], .struct [(0, 9), (1, 3)]⟩
 (.node .nil 108 ⟨1, 8, [.nilFunc], [0], .other⟩
 .nil))) 109 ⟨1, 24, [.slice none 0 0], [4], .sl 178⟩
 (.node (.node (.node (.node .nil 110 ⟨2, 32, [.int .i64 0, .slice none 0 0], [0, 4], .struct [(0, 3), (1, 109)]⟩
 .nil) 111 ⟨2, 32, [.int .i64 0, .slice none 0 0], [0, 4], .struct [(0, 3), (1, 109)]⟩
 .nil) 112 ⟨5, 56, [.int .i64 0, .int .i64 0, .int .i64 0, .slice none 0 0, .int .i64 0], [0, 0, 0, 4, 0], .struct [(0, 3), (1, 3), (2, 111), (4, 3)]⟩
 (.node (.node .nil 113 ⟨5, 56, [.int .i64 0, .int .i64 0, .int .i64 0, .slice none 0 0, .int .i64 0], [0, 0, 0, 4, 0], .struct [(0, 3), (1, 3), (2, 111), (4, 3)]⟩
 .nil) 114 ⟨1, 8, [.nilFunc], [0], .other⟩
 .nil)) 115 ⟨4, 40, [.int .i64 0, .int .i64 0, .int .i64 0, .string ⟨#[]⟩], [0, 0, 0, 0], .struct [(0, 3), (1, 3), (2, 3), (3, 9)]⟩
 (.node (.node (.node .nil 116 ⟨4, 40, [.int .i64 0, .int .i64 0, .int .i64 0, .string ⟨#[]⟩], [0, 0, 0, 0], .struct [(0, 3), (1, 3), (2, 3), (3, 9)]⟩
 .nil) 117 ⟨4, 40, [.string ⟨#[]⟩, .int .i64 0, .int .i64 0, .int .i64 0], [0, 0, 0, 0], .struct [(0, 9), (1, 3), (2, 3), (3, 3)]⟩
 .nil) 118 ⟨1, 8, [.nilFunc], [0], .other⟩
 (.node .nil 119 ⟨2, 24, [.string ⟨#[]⟩, .int .i64 0], [0, 0], .struct [(0, 9), (1, 3)]⟩
 .nil)))) 120 ⟨1, 8, [.nilFunc], [0], .other⟩
 (.node (.node (.node (.node (.node .nil 121 ⟨1, 8, [.nilFunc], [0], .other⟩
 .nil) 122 ⟨6, 88, [.int .i64 0, .int .i64 0, .string ⟨#[]⟩, .slice none 0 0, .slice none 0 0, .int .i64 0], [0, 0, 0, 2, 1, 0], .struct [(0, 31), (3, 49), (4, 22), (5, 3)]⟩
 .nil) 123 ⟨6, 88, [.int .i64 0, .int .i64 0, .string ⟨#[]⟩, .slice none 0 0, .slice none 0 0, .int .i64 0], [0, 0, 0, 2, 1, 0], .struct [(0, 31), (3, 49), (4, 22), (5, 3)]⟩
 (.node (.node .nil 124 ⟨10, 128, [.int .i64 0, .int .i64 0, .int .i64 0, .string ⟨#[]⟩, .slice none 0 0, .slice none 0 0, .int .i64 0, .string ⟨#[]⟩, .int .i64 0, .int .i64 0], [0, 0, 0, 0, 2, 1, 0, 0, 0, 0], .struct [(0, 3), (1, 123), (7, 9), (8, 3), (9, 3)]⟩
 .nil) 125 ⟨10, 128, [.int .i64 0, .int .i64 0, .int .i64 0, .string ⟨#[]⟩, .slice none 0 0, .slice none 0 0, .int .i64 0, .string ⟨#[]⟩, .int .i64 0, .int .i64 0], [0, 0, 0, 0, 2, 1, 0, 0, 0, 0], .struct [(0, 3), (1, 123), (7, 9), (8, 3), (9, 3)]⟩
 .nil)) 126 ⟨1, 8, [.nilFunc], [0], .other⟩
 (.node (.node (.node .nil 127 ⟨2, 24, [.string ⟨#[]⟩, .int .i64 0], [0, 0], .struct [(0, 9), (1, 3)]⟩
 .nil) 128 ⟨1, 8, [.nilFunc], [0], .other⟩
 .nil) 129 ⟨1, 24, [.slice none 0 0], [4], .sl 179⟩
 (.node .nil 130 ⟨2, 32, [.int .i64 0, .slice none 0 0], [0, 4], .struct [(0, 3), (1, 129)]⟩
 .nil))) 131 ⟨2, 32, [.int .i64 0, .slice none 0 0], [0, 4], .struct [(0, 3), (1, 129)]⟩
 (.node (.node (.node (.node .nil 132 ⟨5, 56, [.int .i64 0, .int .i64 0, .int .i64 0, .slice none 0 0, .int .i64 0], [0, 0, 0, 4, 0], .struct [(0, 3), (1, 3), (2, 131), (4, 3)]⟩
 .nil) 133 ⟨5, 56, [.int .i64 0, .int .i64 0, .int .i64 0, .slice none 0 0, .int .i64 0], [0, 0, 0, 4, 0], .struct [(0, 3), (1, 3), (2, 131), (4, 3)]⟩
 .nil) 134 ⟨1, 8, [.nilFunc], [0], .other⟩
 (.node (.node .nil 135 ⟨4, 40, [.int .i64 0, .int .i64 0, .int .i64 0, .string ⟨#[]⟩], [0, 0, 0, 0], .struct [(0, 3), (1, 3), (2, 3), (3, 9)]⟩
 .nil) 136 ⟨1, 8, [.nilFunc], [0], .other⟩
 .nil)) 137 ⟨1, 8, [.nilFunc], [0], .other⟩
 (.node (.node (.node .nil 138 ⟨1, 8, [.nilFunc], [0], .other⟩
 .nil) 139 ⟨1, 8, [.nilFunc], [0], .other⟩
 .nil) 140 ⟨1, 8, [.nilFunc], [0], .other⟩
 (.node .nil 141 ⟨1, 8, [.nilFunc], [0], .other⟩
 .nil))))) 142 ⟨1, 8, [.nilFunc], [0], .other⟩
 (.node (.node (.node (.node (.node (.node .nil 143 ⟨1, 8, [.nilFunc], [0], .other⟩
 .nil) 144 ⟨1, 8, [.nilFunc], [0], .other⟩
 .nil) 148 ⟨1, 8, [.nilFunc], [0], .other⟩
 (.node (.node .nil 152 ⟨1, 8, [.nilFunc], [0], .other⟩
 .nil) 153 ⟨1, 8, [.nilFunc], [0], .other⟩
 .nil)) 154 ⟨1, 8, [.nilFunc], [0], .other⟩
 (.node (.node (.node .nil 155 ⟨1, 8, [.nilFunc], [0], .other⟩
 .nil) 156 ⟨1, 8, [.nilFunc], [0], .other⟩
 .nil) 157 ⟨1, 8, [.nilFunc], [0], .other⟩
 (.node .nil 158 ⟨1, 8, [.nilFunc], [0], .other⟩
 .nil))) 159 ⟨1, 8, [.nilFunc], [0], .other⟩
 (.node (.node (.node (.node .nil 160 ⟨1, 8, [.nilFunc], [0], .other⟩
 .nil) 161 ⟨1, 8, [.nilFunc], [0], .other⟩
 .nil) 163 ⟨1, 8, [.nilFunc], [0], .other⟩
 (.node (.node .nil 164 ⟨1, 8, [.nilFunc], [0], .other⟩
 .nil) 165 ⟨1, 8, [.nilFunc], [0], .other⟩
 .nil)) 166 ⟨1, 8, [.nilFunc], [0], .other⟩
 (.node (.node (.node .nil 168 ⟨1, 8, [.int .u64 0], [0], .int .u64⟩
 .nil) 169 ⟨1, 8, [.nilFunc], [0], .other⟩
 .nil) 170 ⟨1, 8, [.nilFunc], [0], .other⟩
 (.node .nil 172 ⟨1, 8, [.nilFunc], [0], .other⟩
 .nil)))) 174 ⟨1, 8, [.nilFunc], [0], .other⟩
 (.node (.node (.node (.node (.node .nil 175 ⟨1, 8, [.nilFunc], [0], .other⟩
 .nil) 176 ⟨1, 8, [.nilFunc], [0], .other⟩
 .nil) 177 ⟨4, 40, [.int .i64 0, .string ⟨#[]⟩, .int .i64 0, .int .i64 0], [0, 0, 0, 0], .struct [(0, 3), (1, 9), (2, 3), (3, 3)]⟩
 (.node (.node .nil 178 ⟨4, 40, [.int .i64 0, .string ⟨#[]⟩, .int .i64 0, .int .i64 0], [0, 0, 0, 0], .struct [(0, 3), (1, 9), (2, 3), (3, 3)]⟩
 .nil) 179 ⟨4, 40, [.int .i64 0, .string ⟨#[]⟩, .int .i64 0, .int .i64 0], [0, 0, 0, 0], .struct [(0, 3), (1, 9), (2, 3), (3, 3)]⟩
 .nil)) 180 ⟨1, 8, [.nilFunc], [0], .other⟩
 (.node (.node (.node .nil 181 ⟨1, 8, [.nilFunc], [0], .other⟩
 .nil) 182 ⟨1, 8, [.nilFunc], [0], .other⟩
 .nil) 183 ⟨1, 8, [.nilFunc], [0], .other⟩
 (.node .nil 185 ⟨1, 4, [.int .u32 0], [0], .int .u32⟩
 .nil))) 187 ⟨1, 8, [.nilFunc], [0], .other⟩
 (.node (.node (.node (.node .nil 188 ⟨1, 8, [.int .u64 0], [0], .int .u64⟩
 .nil) 189 ⟨1, 8, [.nilFunc], [0], .other⟩
 .nil) 190 ⟨1, 8, [.nilFunc], [0], .other⟩
 (.node (.node .nil 198 ⟨1, 8, [.nilFunc], [0], .other⟩
 .nil) 199 ⟨1, 1, [.int .u8 0], [0], .int .u8⟩
 .nil)) 200 ⟨1, 1, [.int .u8 0], [0], .int .u8⟩
 (.node (.node (.node .nil 201 ⟨1, 8, [.nilFunc], [0], .other⟩
 .nil) 202 ⟨1, 4, [.int .i32 0], [0], .int .i32⟩
 .nil) 203 ⟨1, 4, [.int .i32 0], [0], .int .i32⟩
 (.node .nil 206 ⟨1, 8, [.nilFunc], [0], .other⟩
 .nil)))))))

theorem Tryd.tok : TOk Tryd.prog Tryd.tab := tok_of (by kernel_rfl)
theorem Tryd.mixed : Tryd.prog.follows .mixedOrders = true := by kernel_rfl
end Go.Proofs
