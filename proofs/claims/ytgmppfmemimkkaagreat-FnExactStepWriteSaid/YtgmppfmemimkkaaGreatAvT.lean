import Derived.Test.YtgmppfmemimkkaaGreatAvZ
import Derived.Test.YtgmppfmemimkkaaGreatProg
import Derived.KernelRfl
namespace Go.Proofs
open Go Go.Av
def Tryz.tab : Tab :=
(.node (.node (.node (.node (.node (.node (.node (.node .nil 1 ⟨1, 8, [.nilFunc], [0], .other⟩
 .nil) 2 ⟨1, 8, [.int .i64 0], [0], .int .i64⟩
 (.node .nil 3 ⟨1, 8, [.int .i64 0], [0], .int .i64⟩
 .nil)) 4 ⟨1, 1, [.bool false], [0], .bool⟩
 (.node (.node .nil 5 ⟨1, 1, [.int .u8 0], [0], .int .u8⟩
 .nil) 6 ⟨1, 1, [.int .u8 0], [0], .int .u8⟩
 (.node .nil 9 ⟨1, 16, [.string ⟨#[]⟩], [0], .str⟩
 .nil))) 10 ⟨1, 16, [.string ⟨#[]⟩], [0], .str⟩
 (.node (.node (.node .nil 11 ⟨1, 16, [.string ⟨#[]⟩], [0], .str⟩
 .nil) 12 ⟨1, 8, [.int .u64 0], [0], .int .u64⟩
 (.node .nil 21 ⟨1, 4, [.int .i32 0], [0], .int .i32⟩
 .nil)) 22 ⟨1, 24, [.slice none 0 0], [4], .sl 59⟩
 (.node (.node .nil 23 ⟨1, 24, [.slice none 0 0], [2], .sl 61⟩
 .nil) 24 ⟨3, 32, [.int .i64 0, .int .i64 0, .string ⟨#[]⟩], [0, 0, 0], .struct [(0, 3), (1, 3), (2, 9)]⟩
 .nil))) 25 ⟨3, 32, [.int .i64 0, .int .i64 0, .string ⟨#[]⟩], [0, 0, 0], .struct [(0, 3), (1, 3), (2, 9)]⟩
 (.node (.node (.node (.node .nil 26 ⟨1, 24, [.slice none 0 0], [2], .sl 111⟩
 .nil) 27 ⟨6, 80, [.int .i64 0, .int .i64 0, .string ⟨#[]⟩, .string ⟨#[]⟩, .slice none 0 0, .int .i64 0], [0, 0, 0, 0, 2, 0], .struct [(0, 25), (3, 9), (4, 26), (5, 3)]⟩
 (.node .nil 28 ⟨6, 80, [.int .i64 0, .int .i64 0, .string ⟨#[]⟩, .string ⟨#[]⟩, .slice none 0 0, .int .i64 0], [0, 0, 0, 0, 2, 0], .struct [(0, 25), (3, 9), (4, 26), (5, 3)]⟩
 .nil)) 29 ⟨1, 24, [.slice none 0 0], [10], .sl 104⟩
 (.node (.node .nil 30 ⟨1, 24, [.slice none 0 0], [2], .sl 107⟩
 .nil) 31 ⟨1, 24, [.slice none 0 0], [5], .sl 113⟩
 .nil)) 32 ⟨1, 24, [.slice none 0 0], [4], .sl 116⟩
 (.node (.node (.node .nil 33 ⟨13, 232, [.slice none 0 0, .slice none 0 0, .int .i64 0, .int .i64 0, .string ⟨#[]⟩, .string ⟨#[]⟩, .slice none 0 0, .int .i64 0, .slice none 0 0, .slice none 0 0, .slice none 0 0, .slice none 0 0, .int .i64 0], [4, 2, 0, 0, 0, 0, 2, 0, 10, 2, 5, 4, 0], .struct [(0, 22), (1, 23), (2, 28), (8, 29), (9, 30), (10, 31), (11, 32), (12, 3)]⟩
 .nil) 34 ⟨13, 232, [.slice none 0 0, .slice none 0 0, .int .i64 0, .int .i64 0, .string ⟨#[]⟩, .string ⟨#[]⟩, .slice none 0 0, .int .i64 0, .slice none 0 0, .slice none 0 0, .slice none 0 0, .slice none 0 0, .int .i64 0], [4, 2, 0, 0, 0, 0, 2, 0, 10, 2, 5, 4, 0], .struct [(0, 22), (1, 23), (2, 28), (8, 29), (9, 30), (10, 31), (11, 32), (12, 3)]⟩
 (.node .nil 36 ⟨1, 8, [.nilFunc], [0], .other⟩
 .nil)) 37 ⟨1, 8, [.nilFunc], [0], .other⟩
 (.node (.node .nil 38 ⟨1, 8, [.nilFunc], [0], .other⟩
 .nil) 39 ⟨1, 8, [.nilFunc], [0], .other⟩
 .nil)))) 40 ⟨1, 24, [.slice none 0 0], [4], .sl 122⟩
 (.node (.node (.node (.node (.node .nil 41 ⟨1, 24, [.slice none 0 0], [2], .sl 124⟩
 .nil) 42 ⟨3, 32, [.int .i64 0, .int .i64 0, .string ⟨#[]⟩], [0, 0, 0], .struct [(0, 3), (1, 3), (2, 9)]⟩
 (.node .nil 43 ⟨1, 24, [.slice none 0 0], [2], .sl 137⟩
 .nil)) 44 ⟨6, 80, [.int .i64 0, .int .i64 0, .string ⟨#[]⟩, .string ⟨#[]⟩, .slice none 0 0, .int .i64 0], [0, 0, 0, 0, 2, 0], .struct [(0, 42), (3, 9), (4, 43), (5, 3)]⟩
 (.node (.node .nil 45 ⟨6, 80, [.int .i64 0, .int .i64 0, .string ⟨#[]⟩, .string ⟨#[]⟩, .slice none 0 0, .int .i64 0], [0, 0, 0, 0, 2, 0], .struct [(0, 42), (3, 9), (4, 43), (5, 3)]⟩
 .nil) 46 ⟨1, 24, [.slice none 0 0], [10], .sl 131⟩
 (.node .nil 47 ⟨1, 24, [.slice none 0 0], [2], .sl 133⟩
 .nil))) 48 ⟨1, 24, [.slice none 0 0], [5], .sl 139⟩
 (.node (.node (.node .nil 49 ⟨1, 24, [.slice none 0 0], [4], .sl 141⟩
 .nil) 50 ⟨13, 232, [.slice none 0 0, .slice none 0 0, .int .i64 0, .int .i64 0, .string ⟨#[]⟩, .string ⟨#[]⟩, .slice none 0 0, .int .i64 0, .slice none 0 0, .slice none 0 0, .slice none 0 0, .slice none 0 0, .int .i64 0], [4, 2, 0, 0, 0, 0, 2, 0, 10, 2, 5, 4, 0], .struct [(0, 40), (1, 41), (2, 45), (8, 46), (9, 47), (10, 48), (11, 49), (12, 3)]⟩
 (.node .nil 51 ⟨13, 232, [.slice none 0 0, .slice none 0 0, .int .i64 0, .int .i64 0, .string ⟨#[]⟩, .string ⟨#[]⟩, .slice none 0 0, .int .i64 0, .slice none 0 0, .slice none 0 0, .slice none 0 0, .slice none 0 0, .int .i64 0], [4, 2, 0, 0, 0, 0, 2, 0, 10, 2, 5, 4, 0], .struct [(0, 40), (1, 41), (2, 45), (8, 46), (9, 47), (10, 48), (11, 49), (12, 3)]⟩
 .nil)) 52 ⟨1, 8, [.nilFunc], [0], .other⟩
 (.node (.node .nil 53 ⟨1, 8, [.nilFunc], [0], .other⟩
 .nil) 54 ⟨1, 8, [.nilFunc], [0], .other⟩
 .nil))) 55 ⟨1, 8, [.nilFunc], [0], .other⟩
 (.node (.node (.node (.node .nil 56 ⟨1, 24, [.slice none 0 0], [1], .sl 9⟩
 .nil) 57 ⟨1, 8, [.nilFunc], [0], .other⟩
 (.node .nil 58 ⟨4, 40, [.string ⟨#[]⟩, .int .i64 0, .int .i64 0, .int .i64 0], [0, 0, 0, 0], .struct [(0, 9), (1, 3), (2, 3), (3, 3)]⟩
 .nil)) 59 ⟨4, 40, [.string ⟨#[]⟩, .int .i64 0, .int .i64 0, .int .i64 0], [0, 0, 0, 0], .struct [(0, 9), (1, 3), (2, 3), (3, 3)]⟩
 (.node (.node .nil 60 ⟨2, 24, [.string ⟨#[]⟩, .int .i64 0], [0, 0], .struct [(0, 9), (1, 3)]⟩
 .nil) 61 ⟨2, 24, [.string ⟨#[]⟩, .int .i64 0], [0, 0], .struct [(0, 9), (1, 3)]⟩
 .nil)) 62 ⟨1, 8, [.nilFunc], [0], .other⟩
 (.node (.node (.node .nil 63 ⟨1, 8, [.nilFunc], [0], .other⟩
 .nil) 64 ⟨1, 8, [.nilFunc], [0], .other⟩
 (.node .nil 65 ⟨1, 8, [.nilFunc], [0], .other⟩
 .nil)) 66 ⟨1, 8, [.nilFunc], [0], .other⟩
 (.node (.node .nil 67 ⟨1, 8, [.nilFunc], [0], .other⟩
 .nil) 68 ⟨1, 8, [.nilFunc], [0], .other⟩
 .nil))))) 69 ⟨1, 8, [.nilFunc], [0], .other⟩
 (.node (.node (.node (.node (.node (.node .nil 70 ⟨1, 8, [.nilFunc], [0], .other⟩
 .nil) 71 ⟨1, 8, [.nilFunc], [0], .other⟩
 (.node .nil 72 ⟨1, 8, [.nilFunc], [0], .other⟩
 .nil)) 73 ⟨1, 8, [.nilFunc], [0], .other⟩
 (.node (.node .nil 74 ⟨1, 8, [.nilFunc], [0], .other⟩
 .nil) 75 ⟨1, 8, [.nilFunc], [0], .other⟩
 (.node .nil 76 ⟨1, 8, [.nilFunc], [0], .other⟩
 .nil))) 77 ⟨1, 8, [.nilFunc], [0], .other⟩
 (.node (.node (.node .nil 78 ⟨1, 8, [.nilFunc], [0], .other⟩
 .nil) 79 ⟨1, 8, [.nilFunc], [0], .other⟩
 (.node .nil 80 ⟨1, 8, [.nilFunc], [0], .other⟩
 .nil)) 81 ⟨1, 8, [.nilFunc], [0], .other⟩
 (.node (.node .nil 82 ⟨1, 8, [.nilFunc], [0], .other⟩
 .nil) 83 ⟨1, 8, [.nilFunc], [0], .other⟩
 .nil))) 84 ⟨1, 8, [.nilFunc], [0], .other⟩
 (.node (.node (.node (.node .nil 86 ⟨1, 8, [.nilFunc], [0], .other⟩
 .nil) 87 ⟨1, 8, [.nilFunc], [0], .other⟩
 (.node .nil 88 ⟨1, 8, [.nilFunc], [0], .other⟩
 .nil)) 89 ⟨1, 8, [.nilFunc], [0], .other⟩
 (.node (.node .nil 90 ⟨1, 8, [.nilFunc], [0], .other⟩
 .nil) 91 ⟨1, 8, [.nilFunc], [0], .other⟩
 .nil)) 92 ⟨1, 8, [.nilFunc], [0], .other⟩
 (.node (.node (.node .nil 93 ⟨1, 8, [.nilFunc], [0], .other⟩
 .nil) 94 ⟨1, 8, [.nilFunc], [0], .other⟩
 (.node .nil 95 ⟨1, 8, [.nilFunc], [0], .other⟩
 .nil)) 96 ⟨1, 8, [.nilFunc], [0], .other⟩
 (.node (.node .nil 97 ⟨1, 8, [.nilFunc], [0], .other⟩
 .nil) 98 ⟨1, 8, [.nilFunc], [0], .other⟩
 .nil)))) 99 ⟨1, 8, [.nilFunc], [0], .other⟩
 (.node (.node (.node (.node (.node .nil 100 ⟨1, 24, [.slice none 0 0], [1], .sl 3⟩
 .nil) 101 ⟨6, 88, [.int .i64 0, .int .i64 0, .string ⟨#[]⟩, .slice none 0 0, .slice none 0 0, .int .i64 0], [0, 0, 0, 2, 1, 0], .struct [(0, 25), (3, 26), (4, 100), (5, 3)]⟩
 (.node .nil 102 ⟨6, 88, [.int .i64 0, .int .i64 0, .string ⟨#[]⟩, .slice none 0 0, .slice none 0 0, .int .i64 0], [0, 0, 0, 2, 1, 0], .struct [(0, 25), (3, 26), (4, 100), (5, 3)]⟩
 .nil)) 103 ⟨10, 128, [.int .i64 0, .int .i64 0, .int .i64 0, .string ⟨#[]⟩, .slice none 0 0, .slice none 0 0, .int .i64 0, .string ⟨#[]⟩, .int .i64 0, .int .i64 0], [0, 0, 0, 0, 2, 1, 0, 0, 0, 0], .struct [(0, 3), (1, 102), (7, 9), (8, 3), (9, 3)]⟩
 (.node (.node .nil 104 ⟨10, 128, [.int .i64 0, .int .i64 0, .int .i64 0, .string ⟨#[]⟩, .slice none 0 0, .slice none 0 0, .int .i64 0, .string ⟨#[]⟩, .int .i64 0, .int .i64 0], [0, 0, 0, 0, 2, 1, 0, 0, 0, 0], .struct [(0, 3), (1, 102), (7, 9), (8, 3), (9, 3)]⟩
 .nil) 105 ⟨1, 8, [.nilFunc], [0], .other⟩
 (.node .nil 106 ⟨2, 24, [.string ⟨#[]⟩, .int .i64 0], [0, 0], .struct [(0, 9), (1, 3)]⟩
 .nil))) 107 ⟨2, 24, [.string ⟨#[]⟩, .int .i64 0], [0, 0], .struct [(0, 9), (1, 3)]⟩
 (.node (.node (.node .nil 108 ⟨1, 8, [.nilFunc], [0], .other⟩
 .nil) 109 ⟨1, 24, [.slice none 0 0], [4], .sl 181⟩
 (.node .nil 110 ⟨2, 32, [.int .i64 0, .slice none 0 0], [0, 4], .struct [(0, 3), (1, 109)]⟩
 .nil)) 111 ⟨2, 32, [.int .i64 0, .slice none 0 0], [0, 4], .struct [(0, 3), (1, 109)]⟩
 (.node (.node .nil 112 ⟨5, 56, [.int .i64 0, .int .i64 0, .int .i64 0, .slice none 0 0, .int .i64 0], [0, 0, 0, 4, 0], .struct [(0, 3), (1, 3), (2, 111), (4, 3)]⟩
 .nil) 113 ⟨5, 56, [.int .i64 0, .int .i64 0, .int .i64 0, .slice none 0 0, .int .i64 0], [0, 0, 0, 4, 0], .struct [(0, 3), (1, 3), (2, 111), (4, 3)]⟩
 .nil))) 114 ⟨1, 8, [.nilFunc], [0], .other⟩
 (.node (.node (.node (.node .nil 115 ⟨4, 40, [.int .i64 0, .int .i64 0, .int .i64 0, .string ⟨#[]⟩], [0, 0, 0, 0], .struct [(0, 3), (1, 3), (2, 3), (3, 9)]⟩
 .nil) 116 ⟨4, 40, [.int .i64 0, .int .i64 0, .int .i64 0, .string ⟨#[]⟩], [0, 0, 0, 0], .struct [(0, 3), (1, 3), (2, 3), (3, 9)]⟩
 (.node .nil 117 ⟨1, 8, [.nilFunc], [0], .other⟩
 .nil)) 118 ⟨1, 8, [.nilFunc], [0], .other⟩
 (.node (.node .nil 119 ⟨1, 8, [.nilFunc], [0], .other⟩
 .nil) 120 ⟨1, 8, [.nilFunc], [0], .other⟩
 .nil)) 121 ⟨1, 8, [.nilFunc], [0], .other⟩
 (.node (.node (.node .nil 122 ⟨4, 40, [.string ⟨#[]⟩, .int .i64 0, .int .i64 0, .int .i64 0], [0, 0, 0, 0], .struct [(0, 9), (1, 3), (2, 3), (3, 3)]⟩
 .nil) 123 ⟨1, 8, [.nilFunc], [0], .other⟩
 (.node .nil 124 ⟨2, 24, [.string ⟨#[]⟩, .int .i64 0], [0, 0], .struct [(0, 9), (1, 3)]⟩
 .nil)) 125 ⟨1, 8, [.nilFunc], [0], .other⟩
 (.node (.node .nil 126 ⟨1, 8, [.nilFunc], [0], .other⟩
 .nil) 127 ⟨1, 8, [.nilFunc], [0], .other⟩
 .nil)))))) 128 ⟨6, 88, [.int .i64 0, .int .i64 0, .string ⟨#[]⟩, .slice none 0 0, .slice none 0 0, .int .i64 0], [0, 0, 0, 2, 1, 0], .struct [(0, 42), (3, 43), (4, 100), (5, 3)]⟩
 (.node (.node (.node (.node (.node (.node (.node .nil 129 ⟨6, 88, [.int .i64 0, .int .i64 0, .string ⟨#[]⟩, .slice none 0 0, .slice none 0 0, .int .i64 0], [0, 0, 0, 2, 1, 0], .struct [(0, 42), (3, 43), (4, 100), (5, 3)]⟩
 .nil) 130 ⟨10, 128, [.int .i64 0, .int .i64 0, .int .i64 0, .string ⟨#[]⟩, .slice none 0 0, .slice none 0 0, .int .i64 0, .string ⟨#[]⟩, .int .i64 0, .int .i64 0], [0, 0, 0, 0, 2, 1, 0, 0, 0, 0], .struct [(0, 3), (1, 129), (7, 9), (8, 3), (9, 3)]⟩
 (.node .nil 131 ⟨10, 128, [.int .i64 0, .int .i64 0, .int .i64 0, .string ⟨#[]⟩, .slice none 0 0, .slice none 0 0, .int .i64 0, .string ⟨#[]⟩, .int .i64 0, .int .i64 0], [0, 0, 0, 0, 2, 1, 0, 0, 0, 0], .struct [(0, 3), (1, 129), (7, 9), (8, 3), (9, 3)]⟩
 .nil)) 132 ⟨1, 8, [.nilFunc], [0], .other⟩
 (.node (.node .nil 133 ⟨2, 24, [.string ⟨#[]⟩, .int .i64 0], [0, 0], .struct [(0, 9), (1, 3)]⟩
 .nil) 134 ⟨1, 8, [.nilFunc], [0], .other⟩
 (.node .nil 135 ⟨1, 24, [.slice none 0 0], [4], .sl 213⟩
 .nil))) 136 ⟨2, 32, [.int .i64 0, .slice none 0 0], [0, 4], .struct [(0, 3), (1, 135)]⟩
 (.node (.node (.node .nil 137 ⟨2, 32, [.int .i64 0, .slice none 0 0], [0, 4], .struct [(0, 3), (1, 135)]⟩
 .nil) 138 ⟨5, 56, [.int .i64 0, .int .i64 0, .int .i64 0, .slice none 0 0, .int .i64 0], [0, 0, 0, 4, 0], .struct [(0, 3), (1, 3), (2, 137), (4, 3)]⟩
 (.node .nil 139 ⟨5, 56, [.int .i64 0, .int .i64 0, .int .i64 0, .slice none 0 0, .int .i64 0], [0, 0, 0, 4, 0], .struct [(0, 3), (1, 3), (2, 137), (4, 3)]⟩
 .nil)) 140 ⟨1, 8, [.nilFunc], [0], .other⟩
 (.node (.node .nil 141 ⟨4, 40, [.int .i64 0, .int .i64 0, .int .i64 0, .string ⟨#[]⟩], [0, 0, 0, 0], .struct [(0, 3), (1, 3), (2, 3), (3, 9)]⟩
 .nil) 142 ⟨1, 8, [.nilFunc], [0], .other⟩
 .nil))) 143 ⟨1, 8, [.nilFunc], [0], .other⟩
 (.node (.node (.node (.node .nil 144 ⟨1, 8, [.nilFunc], [0], .other⟩
 .nil) 145 ⟨1, 24, [.slice none 0 0], [4], .sl 151⟩
 (.node .nil 146 ⟨1, 8, [.nilFunc], [0], .other⟩
 .nil)) 147 ⟨1, 8, [.nilFunc], [0], .other⟩
 (.node (.node .nil 148 ⟨1, 8, [.nilFunc], [0], .other⟩
 .nil) 149 ⟨1, 8, [.nilFunc], [0], .other⟩
 .nil)) 150 ⟨4, 32, [.int .i64 0, .bool false, .int .i64 0, .int .i64 0], [0, 0, 0, 0], .struct [(0, 3), (1, 4), (2, 3), (3, 3)]⟩
 (.node (.node (.node .nil 151 ⟨4, 32, [.int .i64 0, .bool false, .int .i64 0, .int .i64 0], [0, 0, 0, 0], .struct [(0, 3), (1, 4), (2, 3), (3, 3)]⟩
 .nil) 152 ⟨1, 8, [.nilFunc], [0], .other⟩
 (.node .nil 153 ⟨1, 8, [.nilFunc], [0], .other⟩
 .nil)) 154 ⟨1, 8, [.nilFunc], [0], .other⟩
 (.node (.node .nil 155 ⟨1, 8, [.nilFunc], [0], .other⟩
 .nil) 156 ⟨1, 8, [.nilFunc], [0], .other⟩
 .nil)))) 157 ⟨1, 8, [.nilFunc], [0], .other⟩
 (.node (.node (.node (.node (.node .nil 158 ⟨1, 8, [.nilFunc], [0], .other⟩
 .nil) 159 ⟨1, 8, [.nilFunc], [0], .other⟩
 (.node .nil 160 ⟨1, 8, [.nilFunc], [0], .other⟩
 .nil)) 161 ⟨1, 8, [.nilFunc], [0], .other⟩
 (.node (.node .nil 162 ⟨1, 8, [.nilFunc], [0], .other⟩
 .nil) 163 ⟨1, 8, [.nilFunc], [0], .other⟩
 (.node .nil 164 ⟨1, 8, [.nilFunc], [0], .other⟩
 .nil))) 165 ⟨1, 24, [.slice none 0 0], [1], .sl 100⟩
 (.node (.node (.node .nil 166 ⟨1, 8, [.nilFunc], [0], .other⟩
 .nil) 167 ⟨1, 8, [.nilFunc], [0], .other⟩
 (.node .nil 168 ⟨1, 8, [.nilFunc], [0], .other⟩
 .nil)) 169 ⟨1, 8, [.nilFunc], [0], .other⟩
 (.node (.node .nil 170 ⟨1, 8, [.nilFunc], [0], .other⟩
 .nil) 171 ⟨1, 8, [.nilFunc], [0], .other⟩
 .nil))) 172 ⟨1, 8, [.nilFunc], [0], .other⟩
 (.node (.node (.node (.node .nil 173 ⟨1, 8, [.nilFunc], [0], .other⟩
 .nil) 175 ⟨1, 8, [.nilFunc], [0], .other⟩
 (.node .nil 176 ⟨1, 8, [.nilFunc], [0], .other⟩
 .nil)) 177 ⟨1, 8, [.nilFunc], [0], .other⟩
 (.node (.node .nil 178 ⟨1, 8, [.nilFunc], [0], .other⟩
 .nil) 179 ⟨1, 24, [.slice none 0 0], [1], .sl 5⟩
 .nil)) 180 ⟨4, 40, [.int .i64 0, .string ⟨#[]⟩, .int .i64 0, .int .i64 0], [0, 0, 0, 0], .struct [(0, 3), (1, 9), (2, 3), (3, 3)]⟩
 (.node (.node (.node .nil 181 ⟨4, 40, [.int .i64 0, .string ⟨#[]⟩, .int .i64 0, .int .i64 0], [0, 0, 0, 0], .struct [(0, 3), (1, 9), (2, 3), (3, 3)]⟩
 .nil) 182 ⟨1, 8, [.nilFunc], [0], .other⟩
 (.node .nil 183 ⟨1, 8, [.nilFunc], [0], .other⟩
 .nil)) 184 ⟨1, 8, [.nilFunc], [0], .other⟩
 (.node (.node .nil 185 ⟨1, 8, [.nilFunc], [0], .other⟩
 .nil) 186 ⟨1, 8, [.nilFunc], [0], .other⟩
 .nil))))) 187 ⟨1, 8, [.nilFunc], [0], .other⟩
 (.node (.node (.node (.node (.node (.node .nil 188 ⟨1, 8, [.nilFunc], [0], .other⟩
 .nil) 189 ⟨1, 8, [.nilFunc], [0], .other⟩
 (.node .nil 190 ⟨1, 8, [.nilFunc], [0], .other⟩
 .nil)) 191 ⟨1, 8, [.nilFunc], [0], .other⟩
 (.node (.node .nil 192 ⟨1, 8, [.nilFunc], [0], .other⟩
 .nil) 193 ⟨1, 8, [.nilFunc], [0], .other⟩
 (.node .nil 194 ⟨1, 8, [.nilFunc], [0], .other⟩
 .nil))) 195 ⟨1, 8, [.nilFunc], [0], .other⟩
 (.node (.node (.node .nil 196 ⟨1, 8, [.nilFunc], [0], .other⟩
 .nil) 197 ⟨1, 8, [.nilFunc], [0], .other⟩
 (.node .nil 198 ⟨1, 8, [.nilFunc], [0], .other⟩
 .nil)) 199 ⟨1, 8, [.nilFunc], [0], .other⟩
 (.node (.node .nil 200 ⟨1, 8, [.nilFunc], [0], .other⟩
 .nil) 201 ⟨1, 8, [.nilFunc], [0], .other⟩
 .nil))) 202 ⟨1, 8, [.nilFunc], [0], .other⟩
 (.node (.node (.node (.node .nil 203 ⟨1, 8, [.nilFunc], [0], .other⟩
 .nil) 204 ⟨1, 8, [.nilFunc], [0], .other⟩
 (.node .nil 205 ⟨1, 8, [.nilFunc], [0], .other⟩
 .nil)) 206 ⟨1, 8, [.nilFunc], [0], .other⟩
 (.node (.node .nil 207 ⟨1, 8, [.nilFunc], [0], .other⟩
 .nil) 208 ⟨1, 8, [.nilFunc], [0], .other⟩
 .nil)) 209 ⟨1, 8, [.nilFunc], [0], .other⟩
 (.node (.node (.node .nil 210 ⟨1, 8, [.nilFunc], [0], .other⟩
 .nil) 211 ⟨1, 8, [.nilFunc], [0], .other⟩
 (.node .nil 212 ⟨1, 8, [.nilFunc], [0], .other⟩
 .nil)) 213 ⟨4, 40, [.int .i64 0, .string ⟨#[]⟩, .int .i64 0, .int .i64 0], [0, 0, 0, 0], .struct [(0, 3), (1, 9), (2, 3), (3, 3)]⟩
 (.node (.node .nil 214 ⟨1, 8, [.nilFunc], [0], .other⟩
 .nil) 215 ⟨1, 8, [.nilFunc], [0], .other⟩
 .nil)))) 216 ⟨1, 8, [.nilFunc], [0], .other⟩
 (.node (.node (.node (.node (.node .nil 217 ⟨1, 8, [.nilFunc], [0], .other⟩
 .nil) 218 ⟨1, 8, [.nilFunc], [0], .other⟩
 (.node .nil 219 ⟨1, 8, [.map none], [0], .map 3 3⟩
 .nil)) 220 ⟨1, 8, [.nilFunc], [0], .other⟩
 (.node (.node .nil 221 ⟨1, 8, [.nilFunc], [0], .other⟩
 .nil) 222 ⟨1, 8, [.nilFunc], [0], .other⟩
 .nil)) 223 ⟨1, 8, [.nilFunc], [0], .other⟩
 (.node (.node (.node .nil 224 ⟨1, 8, [.nilFunc], [0], .other⟩
 .nil) 225 ⟨1, 8, [.nilFunc], [0], .other⟩
 (.node .nil 226 ⟨1, 24, [.slice none 0 0], [1], .sl 4⟩
 .nil)) 227 ⟨1, 8, [.nilFunc], [0], .other⟩
 (.node (.node .nil 228 ⟨1, 8, [.nilFunc], [0], .other⟩
 .nil) 229 ⟨1, 8, [.nilFunc], [0], .other⟩
 .nil))) 230 ⟨1, 8, [.nilFunc], [0], .other⟩
 (.node (.node (.node (.node .nil 231 ⟨1, 8, [.nilFunc], [0], .other⟩
 .nil) 232 ⟨1, 8, [.nilFunc], [0], .other⟩
 (.node .nil 233 ⟨1, 8, [.nilFunc], [0], .other⟩
 .nil)) 234 ⟨1, 8, [.nilFunc], [0], .other⟩
 (.node (.node .nil 235 ⟨1, 8, [.nilFunc], [0], .other⟩
 .nil) 236 ⟨1, 8, [.nilFunc], [0], .other⟩
 .nil)) 242 ⟨1, 8, [.nilFunc], [0], .other⟩
 (.node (.node (.node .nil 243 ⟨1, 4, [.int .u32 0], [0], .int .u32⟩
 .nil) 244 ⟨1, 1, [.int .u8 0], [0], .int .u8⟩
 (.node .nil 245 ⟨1, 1, [.int .u8 0], [0], .int .u8⟩
 .nil)) 246 ⟨1, 8, [.nilFunc], [0], .other⟩
 (.node (.node .nil 248 ⟨1, 4, [.int .i32 0], [0], .int .i32⟩
 .nil) 249 ⟨1, 4, [.int .i32 0], [0], .int .i32⟩
 .nil)))))))

theorem Tryz.tok : TOk Tryz.prog Tryz.tab := tok_of (by kernel_rfl)
theorem Tryz.mixed : Tryz.prog.follows .mixedOrders = true := by kernel_rfl
end Go.Proofs
