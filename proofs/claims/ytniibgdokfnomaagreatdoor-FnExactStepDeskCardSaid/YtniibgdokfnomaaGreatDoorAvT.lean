import Derived.Test.YtniibgdokfnomaaGreatDoorAvZ
import Derived.Test.YtniibgdokfnomaaGreatDoorProg
import Derived.KernelRfl
namespace Go.Proofs
open Go Go.Av
def Tryz.tab : Tab :=
(.node (.node (.node (.node (.node (.node (.node (.node .nil 1 ⟨1, 8, [.nilFunc], [0], .other⟩
 .nil) 2 ⟨1, 8, [.int .i64 0], [0], .int .i64⟩
 (.node .nil 3 ⟨1, 8, [.int .i64 0], [0], .int .i64⟩
 .nil)) 4 ⟨1, 1, [.bool false], [0], .bool⟩
 (.node (.node .nil 5 ⟨1, 1, [.int .u8 0], [0], .int .u8⟩
 .nil) 6 ⟨1, 1, [.int .u8 0], [0], .int .u8⟩
 (.node .nil 9 ⟨1, 16, [.string ⟨#[]⟩], [0], .str⟩
 .nil))) 10 ⟨1, 16, [.string ⟨#[]⟩], [0], .str⟩
 (.node (.node (.node .nil 11 ⟨1, 16, [.string ⟨#[]⟩], [0], .str⟩
 .nil) 12 ⟨1, 8, [.int .u64 0], [0], .int .u64⟩
 (.node .nil 21 ⟨1, 4, [.int .i32 0], [0], .int .i32⟩
 .nil)) 22 ⟨1, 24, [.slice none 0 0], [4], .sl 100⟩
 (.node (.node .nil 23 ⟨1, 24, [.slice none 0 0], [2], .sl 103⟩
 .nil) 24 ⟨3, 32, [.int .i64 0, .int .i64 0, .string ⟨#[]⟩], [0, 0, 0], .struct [(0, 3), (1, 3), (2, 9)]⟩
 (.node .nil 25 ⟨3, 32, [.int .i64 0, .int .i64 0, .string ⟨#[]⟩], [0, 0, 0], .struct [(0, 3), (1, 3), (2, 9)]⟩
 .nil)))) 26 ⟨1, 24, [.slice none 0 0], [2], .sl 116⟩
 (.node (.node (.node (.node .nil 27 ⟨6, 80, [.int .i64 0, .int .i64 0, .string ⟨#[]⟩, .string ⟨#[]⟩, .slice none 0 0, .int .i64 0], [0, 0, 0, 0, 2, 0], .struct [(0, 25), (3, 9), (4, 26), (5, 3)]⟩
 .nil) 28 ⟨6, 80, [.int .i64 0, .int .i64 0, .string ⟨#[]⟩, .string ⟨#[]⟩, .slice none 0 0, .int .i64 0], [0, 0, 0, 0, 2, 0], .struct [(0, 25), (3, 9), (4, 26), (5, 3)]⟩
 (.node .nil 29 ⟨1, 24, [.slice none 0 0], [10], .sl 109⟩
 .nil)) 30 ⟨1, 24, [.slice none 0 0], [2], .sl 112⟩
 (.node (.node .nil 31 ⟨1, 24, [.slice none 0 0], [5], .sl 118⟩
 .nil) 32 ⟨1, 24, [.slice none 0 0], [4], .sl 121⟩
 (.node .nil 33 ⟨13, 232, [.slice none 0 0, .slice none 0 0, .int .i64 0, .int .i64 0, .string ⟨#[]⟩, .string ⟨#[]⟩, .slice none 0 0, .int .i64 0, .slice none 0 0, .slice none 0 0, .slice none 0 0, .slice none 0 0, .int .i64 0], [4, 2, 0, 0, 0, 0, 2, 0, 10, 2, 5, 4, 0], .struct [(0, 22), (1, 23), (2, 28), (8, 29), (9, 30), (10, 31), (11, 32), (12, 3)]⟩
 .nil))) 34 ⟨13, 232, [.slice none 0 0, .slice none 0 0, .int .i64 0, .int .i64 0, .string ⟨#[]⟩, .string ⟨#[]⟩, .slice none 0 0, .int .i64 0, .slice none 0 0, .slice none 0 0, .slice none 0 0, .slice none 0 0, .int .i64 0], [4, 2, 0, 0, 0, 0, 2, 0, 10, 2, 5, 4, 0], .struct [(0, 22), (1, 23), (2, 28), (8, 29), (9, 30), (10, 31), (11, 32), (12, 3)]⟩
 (.node (.node (.node .nil 35 ⟨1, 8, [.nilFunc], [0], .other⟩
 .nil) 36 ⟨1, 8, [.nilFunc], [0], .other⟩
 (.node .nil 37 ⟨1, 24, [.slice none 0 0], [4], .sl 128⟩
 .nil)) 38 ⟨1, 24, [.slice none 0 0], [2], .sl 130⟩
 (.node (.node .nil 39 ⟨3, 32, [.int .i64 0, .int .i64 0, .string ⟨#[]⟩], [0, 0, 0], .struct [(0, 3), (1, 3), (2, 9)]⟩
 .nil) 40 ⟨1, 24, [.slice none 0 0], [2], .sl 127⟩
 .nil)))) 41 ⟨6, 80, [.int .i64 0, .int .i64 0, .string ⟨#[]⟩, .string ⟨#[]⟩, .slice none 0 0, .int .i64 0], [0, 0, 0, 0, 2, 0], .struct [(0, 39), (3, 9), (4, 40), (5, 3)]⟩
 (.node (.node (.node (.node (.node .nil 42 ⟨6, 80, [.int .i64 0, .int .i64 0, .string ⟨#[]⟩, .string ⟨#[]⟩, .slice none 0 0, .int .i64 0], [0, 0, 0, 0, 2, 0], .struct [(0, 39), (3, 9), (4, 40), (5, 3)]⟩
 .nil) 43 ⟨1, 24, [.slice none 0 0], [10], .sl 69⟩
 (.node .nil 44 ⟨1, 24, [.slice none 0 0], [2], .sl 134⟩
 .nil)) 45 ⟨1, 24, [.slice none 0 0], [5], .sl 137⟩
 (.node (.node .nil 46 ⟨1, 24, [.slice none 0 0], [4], .sl 139⟩
 .nil) 47 ⟨13, 232, [.slice none 0 0, .slice none 0 0, .int .i64 0, .int .i64 0, .string ⟨#[]⟩, .string ⟨#[]⟩, .slice none 0 0, .int .i64 0, .slice none 0 0, .slice none 0 0, .slice none 0 0, .slice none 0 0, .int .i64 0], [4, 2, 0, 0, 0, 0, 2, 0, 10, 2, 5, 4, 0], .struct [(0, 37), (1, 38), (2, 42), (8, 43), (9, 44), (10, 45), (11, 46), (12, 3)]⟩
 (.node .nil 48 ⟨13, 232, [.slice none 0 0, .slice none 0 0, .int .i64 0, .int .i64 0, .string ⟨#[]⟩, .string ⟨#[]⟩, .slice none 0 0, .int .i64 0, .slice none 0 0, .slice none 0 0, .slice none 0 0, .slice none 0 0, .int .i64 0], [4, 2, 0, 0, 0, 0, 2, 0, 10, 2, 5, 4, 0], .struct [(0, 37), (1, 38), (2, 42), (8, 43), (9, 44), (10, 45), (11, 46), (12, 3)]⟩
 .nil))) 49 ⟨1, 8, [.nilFunc], [0], .other⟩
 (.node (.node (.node .nil 50 ⟨1, 8, [.nilFunc], [0], .other⟩
 .nil) 51 ⟨1, 8, [.nilFunc], [0], .other⟩
 (.node .nil 52 ⟨1, 8, [.nilFunc], [0], .other⟩
 .nil)) 54 ⟨1, 8, [.nilFunc], [0], .other⟩
 (.node (.node .nil 55 ⟨1, 8, [.nilFunc], [0], .other⟩
 .nil) 56 ⟨1, 8, [.nilFunc], [0], .other⟩
 (.node .nil 57 ⟨1, 8, [.nilFunc], [0], .other⟩
 .nil)))) 58 ⟨1, 8, [.nilFunc], [0], .other⟩
 (.node (.node (.node (.node .nil 59 ⟨1, 8, [.nilFunc], [0], .other⟩
 .nil) 60 ⟨1, 8, [.nilFunc], [0], .other⟩
 (.node .nil 61 ⟨1, 8, [.nilFunc], [0], .other⟩
 .nil)) 62 ⟨1, 8, [.nilFunc], [0], .other⟩
 (.node (.node .nil 63 ⟨1, 8, [.nilFunc], [0], .other⟩
 .nil) 64 ⟨1, 8, [.nilFunc], [0], .other⟩
 (.node .nil 65 ⟨1, 24, [.slice none 0 0], [1], .sl 3⟩
 .nil))) 66 ⟨6, 88, [.int .i64 0, .int .i64 0, .string ⟨#[]⟩, .slice none 0 0, .slice none 0 0, .int .i64 0], [0, 0, 0, 2, 1, 0], .struct [(0, 39), (3, 40), (4, 65), (5, 3)]⟩
 (.node (.node (.node .nil 67 ⟨6, 88, [.int .i64 0, .int .i64 0, .string ⟨#[]⟩, .slice none 0 0, .slice none 0 0, .int .i64 0], [0, 0, 0, 2, 1, 0], .struct [(0, 39), (3, 40), (4, 65), (5, 3)]⟩
 .nil) 68 ⟨10, 128, [.int .i64 0, .int .i64 0, .int .i64 0, .string ⟨#[]⟩, .slice none 0 0, .slice none 0 0, .int .i64 0, .string ⟨#[]⟩, .int .i64 0, .int .i64 0], [0, 0, 0, 0, 2, 1, 0, 0, 0, 0], .struct [(0, 3), (1, 67), (7, 9), (8, 3), (9, 3)]⟩
 (.node .nil 69 ⟨10, 128, [.int .i64 0, .int .i64 0, .int .i64 0, .string ⟨#[]⟩, .slice none 0 0, .slice none 0 0, .int .i64 0, .string ⟨#[]⟩, .int .i64 0, .int .i64 0], [0, 0, 0, 0, 2, 1, 0, 0, 0, 0], .struct [(0, 3), (1, 67), (7, 9), (8, 3), (9, 3)]⟩
 .nil)) 70 ⟨1, 8, [.nilFunc], [0], .other⟩
 (.node (.node .nil 71 ⟨1, 8, [.nilFunc], [0], .other⟩
 .nil) 72 ⟨1, 24, [.slice none 0 0], [1], .sl 9⟩
 .nil))))) 73 ⟨1, 8, [.nilFunc], [0], .other⟩
 (.node (.node (.node (.node (.node (.node .nil 74 ⟨1, 8, [.nilFunc], [0], .other⟩
 .nil) 75 ⟨1, 8, [.nilFunc], [0], .other⟩
 (.node .nil 76 ⟨1, 8, [.nilFunc], [0], .other⟩
 .nil)) 77 ⟨1, 8, [.nilFunc], [0], .other⟩
 (.node (.node .nil 78 ⟨1, 8, [.nilFunc], [0], .other⟩
 .nil) 79 ⟨1, 8, [.nilFunc], [0], .other⟩
 (.node .nil 80 ⟨1, 8, [.nilFunc], [0], .other⟩
 .nil))) 81 ⟨1, 8, [.nilFunc], [0], .other⟩
 (.node (.node (.node .nil 82 ⟨1, 8, [.nilFunc], [0], .other⟩
 .nil) 83 ⟨1, 8, [.nilFunc], [0], .other⟩
 (.node .nil 84 ⟨1, 8, [.nilFunc], [0], .other⟩
 .nil)) 85 ⟨1, 8, [.nilFunc], [0], .other⟩
 (.node (.node .nil 86 ⟨1, 8, [.nilFunc], [0], .other⟩
 .nil) 87 ⟨1, 8, [.nilFunc], [0], .other⟩
 (.node .nil 88 ⟨1, 8, [.nilFunc], [0], .other⟩
 .nil)))) 90 ⟨1, 8, [.nilFunc], [0], .other⟩
 (.node (.node (.node (.node .nil 91 ⟨1, 8, [.nilFunc], [0], .other⟩
 .nil) 92 ⟨1, 8, [.nilFunc], [0], .other⟩
 (.node .nil 93 ⟨1, 8, [.nilFunc], [0], .other⟩
 .nil)) 94 ⟨1, 8, [.nilFunc], [0], .other⟩
 (.node (.node .nil 95 ⟨1, 8, [.nilFunc], [0], .other⟩
 .nil) 96 ⟨1, 8, [.nilFunc], [0], .other⟩
 (.node .nil 97 ⟨1, 8, [.nilFunc], [0], .other⟩
 .nil))) 98 ⟨1, 8, [.nilFunc], [0], .other⟩
 (.node (.node (.node .nil 99 ⟨4, 40, [.string ⟨#[]⟩, .int .i64 0, .int .i64 0, .int .i64 0], [0, 0, 0, 0], .struct [(0, 9), (1, 3), (2, 3), (3, 3)]⟩
 .nil) 100 ⟨4, 40, [.string ⟨#[]⟩, .int .i64 0, .int .i64 0, .int .i64 0], [0, 0, 0, 0], .struct [(0, 9), (1, 3), (2, 3), (3, 3)]⟩
 (.node .nil 101 ⟨1, 8, [.nilFunc], [0], .other⟩
 .nil)) 102 ⟨2, 24, [.string ⟨#[]⟩, .int .i64 0], [0, 0], .struct [(0, 9), (1, 3)]⟩
 (.node (.node .nil 103 ⟨2, 24, [.string ⟨#[]⟩, .int .i64 0], [0, 0], .struct [(0, 9), (1, 3)]⟩
 .nil) 104 ⟨1, 8, [.nilFunc], [0], .other⟩
 .nil)))) 105 ⟨1, 8, [.nilFunc], [0], .other⟩
 (.node (.node (.node (.node (.node .nil 106 ⟨6, 88, [.int .i64 0, .int .i64 0, .string ⟨#[]⟩, .slice none 0 0, .slice none 0 0, .int .i64 0], [0, 0, 0, 2, 1, 0], .struct [(0, 25), (3, 26), (4, 65), (5, 3)]⟩
 .nil) 107 ⟨6, 88, [.int .i64 0, .int .i64 0, .string ⟨#[]⟩, .slice none 0 0, .slice none 0 0, .int .i64 0], [0, 0, 0, 2, 1, 0], .struct [(0, 25), (3, 26), (4, 65), (5, 3)]⟩
 (.node .nil 108 ⟨10, 128, [.int .i64 0, .int .i64 0, .int .i64 0, .string ⟨#[]⟩, .slice none 0 0, .slice none 0 0, .int .i64 0, .string ⟨#[]⟩, .int .i64 0, .int .i64 0], [0, 0, 0, 0, 2, 1, 0, 0, 0, 0], .struct [(0, 3), (1, 107), (7, 9), (8, 3), (9, 3)]⟩
 .nil)) 109 ⟨10, 128, [.int .i64 0, .int .i64 0, .int .i64 0, .string ⟨#[]⟩, .slice none 0 0, .slice none 0 0, .int .i64 0, .string ⟨#[]⟩, .int .i64 0, .int .i64 0], [0, 0, 0, 0, 2, 1, 0, 0, 0, 0], .struct [(0, 3), (1, 107), (7, 9), (8, 3), (9, 3)]⟩
 (.node (.node .nil 110 ⟨1, 8, [.nilFunc], [0], .other⟩
 .nil) 111 ⟨2, 24, [.string ⟨#[]⟩, .int .i64 0], [0, 0], .struct [(0, 9), (1, 3)]⟩
 (.node .nil 112 ⟨2, 24, [.string ⟨#[]⟩, .int .i64 0], [0, 0], .struct [(0, 9), (1, 3)]⟩
 .nil))) 113 ⟨1, 8, [.nilFunc], [0], .other⟩
 (.node (.node (.node .nil 114 ⟨1, 24, [.slice none 0 0], [4], .sl 218⟩
 .nil) 115 ⟨2, 32, [.int .i64 0, .slice none 0 0], [0, 4], .struct [(0, 3), (1, 114)]⟩
 (.node .nil 116 ⟨2, 32, [.int .i64 0, .slice none 0 0], [0, 4], .struct [(0, 3), (1, 114)]⟩
 .nil)) 117 ⟨5, 56, [.int .i64 0, .int .i64 0, .int .i64 0, .slice none 0 0, .int .i64 0], [0, 0, 0, 4, 0], .struct [(0, 3), (1, 3), (2, 116), (4, 3)]⟩
 (.node (.node .nil 118 ⟨5, 56, [.int .i64 0, .int .i64 0, .int .i64 0, .slice none 0 0, .int .i64 0], [0, 0, 0, 4, 0], .struct [(0, 3), (1, 3), (2, 116), (4, 3)]⟩
 .nil) 119 ⟨1, 8, [.nilFunc], [0], .other⟩
 .nil))) 120 ⟨4, 40, [.int .i64 0, .int .i64 0, .int .i64 0, .string ⟨#[]⟩], [0, 0, 0, 0], .struct [(0, 3), (1, 3), (2, 3), (3, 9)]⟩
 (.node (.node (.node (.node .nil 121 ⟨4, 40, [.int .i64 0, .int .i64 0, .int .i64 0, .string ⟨#[]⟩], [0, 0, 0, 0], .struct [(0, 3), (1, 3), (2, 3), (3, 9)]⟩
 .nil) 122 ⟨1, 8, [.nilFunc], [0], .other⟩
 (.node .nil 123 ⟨1, 8, [.nilFunc], [0], .other⟩
 .nil)) 124 ⟨1, 8, [.nilFunc], [0], .other⟩
 (.node (.node .nil 125 ⟨1, 24, [.slice none 0 0], [4], .sl 185⟩
 .nil) 126 ⟨2, 32, [.int .i64 0, .slice none 0 0], [0, 4], .struct [(0, 3), (1, 125)]⟩
 (.node .nil 127 ⟨2, 32, [.int .i64 0, .slice none 0 0], [0, 4], .struct [(0, 3), (1, 125)]⟩
 .nil))) 128 ⟨4, 40, [.string ⟨#[]⟩, .int .i64 0, .int .i64 0, .int .i64 0], [0, 0, 0, 0], .struct [(0, 9), (1, 3), (2, 3), (3, 3)]⟩
 (.node (.node (.node .nil 129 ⟨1, 8, [.nilFunc], [0], .other⟩
 .nil) 130 ⟨2, 24, [.string ⟨#[]⟩, .int .i64 0], [0, 0], .struct [(0, 9), (1, 3)]⟩
 (.node .nil 131 ⟨1, 8, [.nilFunc], [0], .other⟩
 .nil)) 132 ⟨1, 8, [.nilFunc], [0], .other⟩
 (.node (.node .nil 133 ⟨1, 8, [.nilFunc], [0], .other⟩
 .nil) 134 ⟨2, 24, [.string ⟨#[]⟩, .int .i64 0], [0, 0], .struct [(0, 9), (1, 3)]⟩
 .nil)))))) 135 ⟨1, 8, [.nilFunc], [0], .other⟩
 (.node (.node (.node (.node (.node (.node (.node .nil 136 ⟨5, 56, [.int .i64 0, .int .i64 0, .int .i64 0, .slice none 0 0, .int .i64 0], [0, 0, 0, 4, 0], .struct [(0, 3), (1, 3), (2, 127), (4, 3)]⟩
 .nil) 137 ⟨5, 56, [.int .i64 0, .int .i64 0, .int .i64 0, .slice none 0 0, .int .i64 0], [0, 0, 0, 4, 0], .struct [(0, 3), (1, 3), (2, 127), (4, 3)]⟩
 (.node .nil 138 ⟨1, 8, [.nilFunc], [0], .other⟩
 .nil)) 139 ⟨4, 40, [.int .i64 0, .int .i64 0, .int .i64 0, .string ⟨#[]⟩], [0, 0, 0, 0], .struct [(0, 3), (1, 3), (2, 3), (3, 9)]⟩
 (.node (.node .nil 140 ⟨1, 8, [.nilFunc], [0], .other⟩
 .nil) 141 ⟨1, 8, [.nilFunc], [0], .other⟩
 (.node .nil 142 ⟨1, 8, [.nilFunc], [0], .other⟩
 .nil))) 143 ⟨1, 8, [.nilFunc], [0], .other⟩
 (.node (.node (.node .nil 144 ⟨1, 8, [.nilFunc], [0], .other⟩
 .nil) 145 ⟨1, 8, [.nilFunc], [0], .other⟩
 (.node .nil 146 ⟨1, 8, [.nilFunc], [0], .other⟩
 .nil)) 147 ⟨1, 8, [.nilFunc], [0], .other⟩
 (.node (.node .nil 148 ⟨1, 8, [.nilFunc], [0], .other⟩
 .nil) 149 ⟨1, 8, [.nilFunc], [0], .other⟩
 (.node .nil 150 ⟨1, 8, [.nilFunc], [0], .other⟩
 .nil)))) 151 ⟨1, 8, [.nilFunc], [0], .other⟩
 (.node (.node (.node (.node .nil 152 ⟨1, 8, [.nilFunc], [0], .other⟩
 .nil) 153 ⟨1, 8, [.nilFunc], [0], .other⟩
 (.node .nil 154 ⟨1, 24, [.slice none 0 0], [4], .sl 180⟩
 .nil)) 155 ⟨1, 8, [.nilFunc], [0], .other⟩
 (.node (.node .nil 156 ⟨1, 8, [.nilFunc], [0], .other⟩
 .nil) 157 ⟨1, 8, [.nilFunc], [0], .other⟩
 (.node .nil 158 ⟨1, 8, [.nilFunc], [0], .other⟩
 .nil))) 159 ⟨1, 8, [.nilFunc], [0], .other⟩
 (.node (.node (.node .nil 160 ⟨1, 8, [.nilFunc], [0], .other⟩
 .nil) 161 ⟨1, 8, [.nilFunc], [0], .other⟩
 (.node .nil 162 ⟨1, 8, [.nilFunc], [0], .other⟩
 .nil)) 163 ⟨1, 8, [.nilFunc], [0], .other⟩
 (.node (.node .nil 164 ⟨1, 8, [.nilFunc], [0], .other⟩
 .nil) 165 ⟨1, 8, [.nilFunc], [0], .other⟩
 .nil)))) 166 ⟨1, 8, [.nilFunc], [0], .other⟩
 (.node (.node (.node (.node (.node .nil 167 ⟨1, 8, [.nilFunc], [0], .other⟩
 .nil) 168 ⟨1, 8, [.nilFunc], [0], .other⟩
 (.node .nil 169 ⟨1, 8, [.nilFunc], [0], .other⟩
 .nil)) 170 ⟨1, 8, [.nilFunc], [0], .other⟩
 (.node (.node .nil 171 ⟨1, 8, [.nilFunc], [0], .other⟩
 .nil) 172 ⟨1, 8, [.nilFunc], [0], .other⟩
 (.node .nil 173 ⟨1, 8, [.nilFunc], [0], .other⟩
 .nil))) 174 ⟨1, 8, [.nilFunc], [0], .other⟩
 (.node (.node (.node .nil 175 ⟨1, 8, [.nilFunc], [0], .other⟩
 .nil) 176 ⟨1, 8, [.nilFunc], [0], .other⟩
 (.node .nil 177 ⟨1, 8, [.nilFunc], [0], .other⟩
 .nil)) 178 ⟨1, 8, [.nilFunc], [0], .other⟩
 (.node (.node .nil 179 ⟨4, 32, [.int .i64 0, .bool false, .int .i64 0, .int .i64 0], [0, 0, 0, 0], .struct [(0, 3), (1, 4), (2, 3), (3, 3)]⟩
 .nil) 180 ⟨4, 32, [.int .i64 0, .bool false, .int .i64 0, .int .i64 0], [0, 0, 0, 0], .struct [(0, 3), (1, 4), (2, 3), (3, 3)]⟩
 .nil))) 181 ⟨1, 8, [.nilFunc], [0], .other⟩
 (.node (.node (.node (.node .nil 182 ⟨1, 8, [.nilFunc], [0], .other⟩
 .nil) 183 ⟨1, 24, [.slice none 0 0], [1], .sl 5⟩
 (.node .nil 184 ⟨4, 40, [.int .i64 0, .string ⟨#[]⟩, .int .i64 0, .int .i64 0], [0, 0, 0, 0], .struct [(0, 3), (1, 9), (2, 3), (3, 3)]⟩
 .nil)) 185 ⟨4, 40, [.int .i64 0, .string ⟨#[]⟩, .int .i64 0, .int .i64 0], [0, 0, 0, 0], .struct [(0, 3), (1, 9), (2, 3), (3, 3)]⟩
 (.node (.node .nil 186 ⟨1, 8, [.nilFunc], [0], .other⟩
 .nil) 187 ⟨1, 8, [.nilFunc], [0], .other⟩
 (.node .nil 188 ⟨1, 8, [.nilFunc], [0], .other⟩
 .nil))) 189 ⟨1, 8, [.nilFunc], [0], .other⟩
 (.node (.node (.node .nil 190 ⟨1, 8, [.nilFunc], [0], .other⟩
 .nil) 191 ⟨1, 8, [.nilFunc], [0], .other⟩
 (.node .nil 192 ⟨1, 8, [.nilFunc], [0], .other⟩
 .nil)) 193 ⟨1, 8, [.nilFunc], [0], .other⟩
 (.node (.node .nil 194 ⟨1, 8, [.nilFunc], [0], .other⟩
 .nil) 198 ⟨1, 8, [.nilFunc], [0], .other⟩
 .nil))))) 202 ⟨1, 8, [.nilFunc], [0], .other⟩
 (.node (.node (.node (.node (.node (.node .nil 204 ⟨1, 8, [.nilFunc], [0], .other⟩
 .nil) 205 ⟨1, 8, [.nilFunc], [0], .other⟩
 (.node .nil 206 ⟨1, 8, [.nilFunc], [0], .other⟩
 .nil)) 207 ⟨1, 8, [.nilFunc], [0], .other⟩
 (.node (.node .nil 208 ⟨1, 8, [.nilFunc], [0], .other⟩
 .nil) 209 ⟨1, 8, [.nilFunc], [0], .other⟩
 (.node .nil 210 ⟨1, 8, [.nilFunc], [0], .other⟩
 .nil))) 211 ⟨1, 8, [.nilFunc], [0], .other⟩
 (.node (.node (.node .nil 212 ⟨1, 24, [.slice none 0 0], [1], .sl 65⟩
 .nil) 213 ⟨1, 8, [.nilFunc], [0], .other⟩
 (.node .nil 214 ⟨1, 8, [.nilFunc], [0], .other⟩
 .nil)) 215 ⟨1, 8, [.map none], [0], .map 3 3⟩
 (.node (.node .nil 216 ⟨1, 8, [.nilFunc], [0], .other⟩
 .nil) 217 ⟨1, 8, [.nilFunc], [0], .other⟩
 (.node .nil 218 ⟨4, 40, [.int .i64 0, .string ⟨#[]⟩, .int .i64 0, .int .i64 0], [0, 0, 0, 0], .struct [(0, 3), (1, 9), (2, 3), (3, 3)]⟩
 .nil)))) 219 ⟨1, 8, [.nilFunc], [0], .other⟩
 (.node (.node (.node (.node .nil 220 ⟨1, 8, [.nilFunc], [0], .other⟩
 .nil) 221 ⟨1, 8, [.nilFunc], [0], .other⟩
 (.node .nil 222 ⟨1, 8, [.nilFunc], [0], .other⟩
 .nil)) 223 ⟨1, 8, [.nilFunc], [0], .other⟩
 (.node (.node .nil 224 ⟨1, 8, [.nilFunc], [0], .other⟩
 .nil) 225 ⟨1, 8, [.nilFunc], [0], .other⟩
 (.node .nil 226 ⟨1, 8, [.nilFunc], [0], .other⟩
 .nil))) 227 ⟨1, 8, [.nilFunc], [0], .other⟩
 (.node (.node (.node .nil 228 ⟨1, 8, [.nilFunc], [0], .other⟩
 .nil) 230 ⟨1, 8, [.nilFunc], [0], .other⟩
 (.node .nil 231 ⟨1, 8, [.nilFunc], [0], .other⟩
 .nil)) 232 ⟨1, 8, [.nilFunc], [0], .other⟩
 (.node (.node .nil 233 ⟨1, 24, [.slice none 0 0], [1], .sl 4⟩
 .nil) 234 ⟨1, 8, [.nilFunc], [0], .other⟩
 .nil)))) 235 ⟨1, 8, [.nilFunc], [0], .other⟩
 (.node (.node (.node (.node (.node .nil 236 ⟨1, 8, [.nilFunc], [0], .other⟩
 .nil) 237 ⟨1, 8, [.nilFunc], [0], .other⟩
 (.node .nil 238 ⟨1, 8, [.nilFunc], [0], .other⟩
 .nil)) 239 ⟨1, 8, [.nilFunc], [0], .other⟩
 (.node (.node .nil 240 ⟨1, 8, [.nilFunc], [0], .other⟩
 .nil) 242 ⟨1, 8, [.nilFunc], [0], .other⟩
 (.node .nil 243 ⟨1, 8, [.nilFunc], [0], .other⟩
 .nil))) 244 ⟨1, 8, [.nilFunc], [0], .other⟩
 (.node (.node (.node .nil 245 ⟨1, 8, [.int .u64 0], [0], .int .u64⟩
 .nil) 250 ⟨1, 8, [.nilFunc], [0], .other⟩
 (.node .nil 251 ⟨1, 8, [.nilFunc], [0], .other⟩
 .nil)) 252 ⟨1, 8, [.nilFunc], [0], .other⟩
 (.node (.node .nil 253 ⟨1, 8, [.nilFunc], [0], .other⟩
 .nil) 254 ⟨1, 4, [.int .u32 0], [0], .int .u32⟩
 .nil))) 256 ⟨1, 8, [.nilFunc], [0], .other⟩
 (.node (.node (.node (.node .nil 258 ⟨1, 8, [.int .u64 0], [0], .int .u64⟩
 .nil) 259 ⟨1, 8, [.nilFunc], [0], .other⟩
 (.node .nil 260 ⟨1, 8, [.nilFunc], [0], .other⟩
 .nil)) 262 ⟨1, 8, [.nilFunc], [0], .other⟩
 (.node (.node .nil 263 ⟨1, 8, [.nilFunc], [0], .other⟩
 .nil) 266 ⟨1, 8, [.nilFunc], [0], .other⟩
 (.node .nil 267 ⟨1, 8, [.nilFunc], [0], .other⟩
 .nil))) 275 ⟨1, 8, [.nilFunc], [0], .other⟩
 (.node (.node (.node .nil 276 ⟨1, 1, [.int .u8 0], [0], .int .u8⟩
 .nil) 277 ⟨1, 1, [.int .u8 0], [0], .int .u8⟩
 (.node .nil 278 ⟨1, 8, [.nilFunc], [0], .other⟩
 .nil)) 279 ⟨1, 4, [.int .i32 0], [0], .int .i32⟩
 (.node (.node .nil 280 ⟨1, 4, [.int .i32 0], [0], .int .i32⟩
 .nil) 283 ⟨1, 8, [.nilFunc], [0], .other⟩
 .nil)))))))

theorem Tryz.tok : TOk Tryz.prog Tryz.tab := tok_of (by kernel_rfl)
theorem Tryz.mixed : Tryz.prog.follows .mixedOrders = true := by kernel_rfl
end Go.Proofs
