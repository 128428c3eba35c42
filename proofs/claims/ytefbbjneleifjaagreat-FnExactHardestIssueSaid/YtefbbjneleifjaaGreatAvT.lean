import Derived.Test.YtefbbjneleifjaaGreatAvZ
import Derived.Test.YtefbbjneleifjaaGreatProg
import Derived.KernelRfl
namespace Go.Proofs
open Go Go.Av
def Tryz.tab : Tab :=
(.node (.node (.node (.node (.node (.node (.node (.node .nil 1 ⟨1, 8, [.nilFunc], [0], .other⟩
  .nil) 2 ⟨1, 8, [.int .i64 0], [0], .int .i64⟩
  (.node .nil 3 ⟨1, 8, [.int .i64 0], [0], .int .i64⟩
  .nil)) 4 ⟨1, 1, [.bool false], [0], .bool⟩
  (.node (.node .nil 5 ⟨1, 1, [.int .u8 0], [0], .int .u8⟩
  .nil) 6 ⟨1, 1, [.int .u8 0], [0], .int .u8⟩
  .nil)) 9 ⟨1, 16, [.string ⟨#[]⟩], [0], .str⟩
  (.node (.node (.node .nil 10 ⟨1, 16, [.string ⟨#[]⟩], [0], .str⟩
  .nil) 11 ⟨1, 16, [.string ⟨#[]⟩], [0], .str⟩
  (.node .nil 12 ⟨1, 8, [.int .u64 0], [0], .int .u64⟩
  .nil)) 21 ⟨1, 4, [.int .i32 0], [0], .int .i32⟩
  (.node (.node .nil 22 ⟨1, 24, [.slice none 0 0], [4], .sl 94⟩
  .nil) 23 ⟨1, 24, [.slice none 0 0], [2], .sl 97⟩
  .nil))) 24 ⟨3, 32, [.int .i64 0, .int .i64 0, .string ⟨#[]⟩], [0, 0, 0], .struct [(0, 3), (1, 3), (2, 9)]⟩
  (.node (.node (.node (.node .nil 25 ⟨3, 32, [.int .i64 0, .int .i64 0, .string ⟨#[]⟩], [0, 0, 0], .struct [(0, 3), (1, 3), (2, 9)]⟩
  .nil) 26 ⟨1, 24, [.slice none 0 0], [2], .sl 110⟩
  (.node .nil 27 ⟨6, 80, [.int .i64 0, .int .i64 0, .string ⟨#[]⟩, .string ⟨#[]⟩, .slice none 0 0, .int .i64 0], [0, 0, 0, 0, 2, 0], .struct [(0, 25), (3, 9), (4, 26), (5, 3)]⟩
  .nil)) 28 ⟨6, 80, [.int .i64 0, .int .i64 0, .string ⟨#[]⟩, .string ⟨#[]⟩, .slice none 0 0, .int .i64 0], [0, 0, 0, 0, 2, 0], .struct [(0, 25), (3, 9), (4, 26), (5, 3)]⟩
  (.node (.node .nil 29 ⟨1, 24, [.slice none 0 0], [10], .sl 104⟩
  .nil) 30 ⟨1, 24, [.slice none 0 0], [2], .sl 106⟩
  .nil)) 31 ⟨1, 24, [.slice none 0 0], [5], .sl 112⟩
  (.node (.node (.node .nil 32 ⟨1, 24, [.slice none 0 0], [4], .sl 115⟩
  .nil) 33 ⟨13, 232, [.slice none 0 0, .slice none 0 0, .int .i64 0, .int .i64 0, .string ⟨#[]⟩, .string ⟨#[]⟩, .slice none 0 0, .int .i64 0, .slice none 0 0, .slice none 0 0, .slice none 0 0, .slice none 0 0, .int .i64 0], [4, 2, 0, 0, 0, 0, 2, 0, 10, 2, 5, 4, 0], .struct [(0, 22), (1, 23), (2, 28), (8, 29), (9, 30), (10, 31), (11, 32), (12, 3)]⟩
  .nil) 34 ⟨13, 232, [.slice none 0 0, .slice none 0 0, .int .i64 0, .int .i64 0, .string ⟨#[]⟩, .string ⟨#[]⟩, .slice none 0 0, .int .i64 0, .slice none 0 0, .slice none 0 0, .slice none 0 0, .slice none 0 0, .int .i64 0], [4, 2, 0, 0, 0, 0, 2, 0, 10, 2, 5, 4, 0], .struct [(0, 22), (1, 23), (2, 28), (8, 29), (9, 30), (10, 31), (11, 32), (12, 3)]⟩
  (.node (.node .nil 35 ⟨1, 8, [.nilFunc], [0], .other⟩
  .nil) 36 ⟨1, 8, [.nilFunc], [0], .other⟩
  .nil)))) 37 ⟨1, 24, [.slice none 0 0], [4], .sl 119⟩
  (.node (.node (.node (.node (.node .nil 38 ⟨1, 24, [.slice none 0 0], [2], .sl 122⟩
  .nil) 39 ⟨3, 32, [.int .i64 0, .int .i64 0, .string ⟨#[]⟩], [0, 0, 0], .struct [(0, 3), (1, 3), (2, 9)]⟩
  (.node .nil 40 ⟨1, 24, [.slice none 0 0], [2], .sl 130⟩
  .nil)) 41 ⟨6, 80, [.int .i64 0, .int .i64 0, .string ⟨#[]⟩, .string ⟨#[]⟩, .slice none 0 0, .int .i64 0], [0, 0, 0, 0, 2, 0], .struct [(0, 39), (3, 9), (4, 40), (5, 3)]⟩
  (.node (.node .nil 42 ⟨6, 80, [.int .i64 0, .int .i64 0, .string ⟨#[]⟩, .string ⟨#[]⟩, .slice none 0 0, .int .i64 0], [0, 0, 0, 0, 2, 0], .struct [(0, 39), (3, 9), (4, 40), (5, 3)]⟩
  .nil) 43 ⟨1, 24, [.slice none 0 0], [10], .sl 66⟩
  .nil)) 44 ⟨1, 24, [.slice none 0 0], [2], .sl 90⟩
  (.node (.node (.node .nil 45 ⟨1, 24, [.slice none 0 0], [5], .sl 132⟩
  .nil) 46 ⟨1, 24, [.slice none 0 0], [4], .sl 134⟩
  .nil) 47 ⟨13, 232, [.slice none 0 0, .slice none 0 0, .int .i64 0, .int .i64 0, .string ⟨#[]⟩, .string ⟨#[]⟩, .slice none 0 0, .int .i64 0, .slice none 0 0, .slice none 0 0, .slice none 0 0, .slice none 0 0, .int .i64 0], [4, 2, 0, 0, 0, 0, 2, 0, 10, 2, 5, 4, 0], .struct [(0, 37), (1, 38), (2, 42), (8, 43), (9, 44), (10, 45), (11, 46), (12, 3)]⟩
  (.node (.node .nil 48 ⟨13, 232, [.slice none 0 0, .slice none 0 0, .int .i64 0, .int .i64 0, .string ⟨#[]⟩, .string ⟨#[]⟩, .slice none 0 0, .int .i64 0, .slice none 0 0, .slice none 0 0, .slice none 0 0, .slice none 0 0, .int .i64 0], [4, 2, 0, 0, 0, 0, 2, 0, 10, 2, 5, 4, 0], .struct [(0, 37), (1, 38), (2, 42), (8, 43), (9, 44), (10, 45), (11, 46), (12, 3)]⟩
  .nil) 49 ⟨1, 8, [.nilFunc], [0], .other⟩
  .nil))) 50 ⟨1, 8, [.nilFunc], [0], .other⟩
  (.node (.node (.node (.node .nil 51 ⟨1, 8, [.nilFunc], [0], .other⟩
  .nil) 52 ⟨1, 8, [.nilFunc], [0], .other⟩
  (.node .nil 53 ⟨1, 8, [.nilFunc], [0], .other⟩
  .nil)) 54 ⟨1, 8, [.nilFunc], [0], .other⟩
  (.node (.node .nil 55 ⟨1, 8, [.nilFunc], [0], .other⟩
  .nil) 56 ⟨1, 8, [.nilFunc], [0], .other⟩
  .nil)) 57 ⟨1, 8, [.nilFunc], [0], .other⟩
  (.node (.node (.node .nil 58 ⟨1, 8, [.nilFunc], [0], .other⟩
  .nil) 59 ⟨1, 8, [.nilFunc], [0], .other⟩
  .nil) 60 ⟨1, 8, [.nilFunc], [0], .other⟩
  (.node (.node .nil 61 ⟨1, 8, [.nilFunc], [0], .other⟩
  .nil) 62 ⟨1, 24, [.slice none 0 0], [1], .sl 3⟩
  .nil))))) 63 ⟨6, 88, [.int .i64 0, .int .i64 0, .string ⟨#[]⟩, .slice none 0 0, .slice none 0 0, .int .i64 0], [0, 0, 0, 2, 1, 0], .struct [(0, 39), (3, 40), (4, 62), (5, 3)]⟩
  (.node (.node (.node (.node (.node (.node .nil 64 ⟨6, 88, [.int .i64 0, .int .i64 0, .string ⟨#[]⟩, .slice none 0 0, .slice none 0 0, .int .i64 0], [0, 0, 0, 2, 1, 0], .struct [(0, 39), (3, 40), (4, 62), (5, 3)]⟩
  .nil) 65 ⟨10, 128, [.int .i64 0, .int .i64 0, .int .i64 0, .string ⟨#[]⟩, .slice none 0 0, .slice none 0 0, .int .i64 0, .string ⟨#[]⟩, .int .i64 0, .int .i64 0], [0, 0, 0, 0, 2, 1, 0, 0, 0, 0], .struct [(0, 3), (1, 64), (7, 9), (8, 3), (9, 3)]⟩
  (.node .nil 66 ⟨10, 128, [.int .i64 0, .int .i64 0, .int .i64 0, .string ⟨#[]⟩, .slice none 0 0, .slice none 0 0, .int .i64 0, .string ⟨#[]⟩, .int .i64 0, .int .i64 0], [0, 0, 0, 0, 2, 1, 0, 0, 0, 0], .struct [(0, 3), (1, 64), (7, 9), (8, 3), (9, 3)]⟩
  .nil)) 68 ⟨1, 8, [.nilFunc], [0], .other⟩
  (.node (.node .nil 69 ⟨1, 8, [.nilFunc], [0], .other⟩
  .nil) 70 ⟨1, 24, [.slice none 0 0], [1], .sl 9⟩
  .nil)) 71 ⟨1, 8, [.nilFunc], [0], .other⟩
  (.node (.node (.node .nil 72 ⟨1, 8, [.nilFunc], [0], .other⟩
  .nil) 73 ⟨1, 8, [.nilFunc], [0], .other⟩
  (.node .nil 74 ⟨1, 8, [.nilFunc], [0], .other⟩
  .nil)) 75 ⟨1, 8, [.nilFunc], [0], .other⟩
  (.node (.node .nil 76 ⟨1, 8, [.nilFunc], [0], .other⟩
  .nil) 77 ⟨1, 8, [.nilFunc], [0], .other⟩
  .nil))) 78 ⟨1, 8, [.nilFunc], [0], .other⟩
  (.node (.node (.node (.node .nil 79 ⟨1, 8, [.nilFunc], [0], .other⟩
  .nil) 80 ⟨1, 8, [.nilFunc], [0], .other⟩
  (.node .nil 81 ⟨1, 8, [.nilFunc], [0], .other⟩
  .nil)) 82 ⟨1, 8, [.nilFunc], [0], .other⟩
  (.node (.node .nil 83 ⟨1, 8, [.nilFunc], [0], .other⟩
  .nil) 84 ⟨1, 8, [.nilFunc], [0], .other⟩
  .nil)) 85 ⟨1, 8, [.nilFunc], [0], .other⟩
  (.node (.node (.node .nil 86 ⟨1, 8, [.nilFunc], [0], .other⟩
  .nil) 88 ⟨1, 8, [.nilFunc], [0], .other⟩
  .nil) 89 ⟨2, 24, [.string ⟨#[]⟩, .int .i64 0], [0, 0], .struct [(0, 9), (1, 3)]⟩
  (.node (.node .nil 90 ⟨2, 24, [.string ⟨#[]⟩, .int .i64 0], [0, 0], .struct [(0, 9), (1, 3)]⟩
  .nil) 91 ⟨1, 8, [.nilFunc], [0], .other⟩
  .nil)))) 92 ⟨1, 8, [.nilFunc], [0], .other⟩
  (.node (.node (.node (.node (.node .nil 93 ⟨4, 40, [.string ⟨#[]⟩, .int .i64 0, .int .i64 0, .int .i64 0], [0, 0, 0, 0], .struct [(0, 9), (1, 3), (2, 3), (3, 3)]⟩
  .nil) 94 ⟨4, 40, [.string ⟨#[]⟩, .int .i64 0, .int .i64 0, .int .i64 0], [0, 0, 0, 0], .struct [(0, 9), (1, 3), (2, 3), (3, 3)]⟩
  (.node .nil 95 ⟨1, 8, [.nilFunc], [0], .other⟩
  .nil)) 96 ⟨2, 24, [.string ⟨#[]⟩, .int .i64 0], [0, 0], .struct [(0, 9), (1, 3)]⟩
  (.node (.node .nil 97 ⟨2, 24, [.string ⟨#[]⟩, .int .i64 0], [0, 0], .struct [(0, 9), (1, 3)]⟩
  .nil) 98 ⟨1, 8, [.nilFunc], [0], .other⟩
  .nil)) 99 ⟨1, 8, [.nilFunc], [0], .other⟩
  (.node (.node (.node .nil 100 ⟨1, 8, [.nilFunc], [0], .other⟩
  .nil) 101 ⟨6, 88, [.int .i64 0, .int .i64 0, .string ⟨#[]⟩, .slice none 0 0, .slice none 0 0, .int .i64 0], [0, 0, 0, 2, 1, 0], .struct [(0, 25), (3, 26), (4, 62), (5, 3)]⟩
  .nil) 102 ⟨6, 88, [.int .i64 0, .int .i64 0, .string ⟨#[]⟩, .slice none 0 0, .slice none 0 0, .int .i64 0], [0, 0, 0, 2, 1, 0], .struct [(0, 25), (3, 26), (4, 62), (5, 3)]⟩
  (.node (.node .nil 103 ⟨10, 128, [.int .i64 0, .int .i64 0, .int .i64 0, .string ⟨#[]⟩, .slice none 0 0, .slice none 0 0, .int .i64 0, .string ⟨#[]⟩, .int .i64 0, .int .i64 0], [0, 0, 0, 0, 2, 1, 0, 0, 0, 0], .struct [(0, 3), (1, 102), (7, 9), (8, 3), (9, 3)]⟩
  .nil) 104 ⟨10, 128, [.int .i64 0, .int .i64 0, .int .i64 0, .string ⟨#[]⟩, .slice none 0 0, .slice none 0 0, .int .i64 0, .string ⟨#[]⟩, .int .i64 0, .int .i64 0], [0, 0, 0, 0, 2, 1, 0, 0, 0, 0], .struct [(0, 3), (1, 102), (7, 9), (8, 3), (9, 3)]⟩
  .nil))) 105 ⟨1, 8, [.nilFunc], [0], .other⟩
  (.node (.node (.node (.node .nil 106 ⟨2, 24, [.string ⟨#[]⟩, .int .i64 0], [0, 0], .struct [(0, 9), (1, 3)]⟩
  .nil) 107 ⟨1, 8, [.nilFunc], [0], .other⟩
  (.node .nil 108 ⟨1, 24, [.slice none 0 0], [4], .sl 198⟩
  .nil)) 109 ⟨2, 32, [.int .i64 0, .slice none 0 0], [0, 4], .struct [(0, 3), (1, 108)]⟩
  (.node (.node .nil 110 ⟨2, 32, [.int .i64 0, .slice none 0 0], [0, 4], .struct [(0, 3), (1, 108)]⟩
  .nil) 111 ⟨5, 56, [.int .i64 0, .int .i64 0, .int .i64 0, .slice none 0 0, .int .i64 0], [0, 0, 0, 4, 0], .struct [(0, 3), (1, 3), (2, 110), (4, 3)]⟩
  .nil)) 112 ⟨5, 56, [.int .i64 0, .int .i64 0, .int .i64 0, .slice none 0 0, .int .i64 0], [0, 0, 0, 4, 0], .struct [(0, 3), (1, 3), (2, 110), (4, 3)]⟩
  (.node (.node (.node .nil 113 ⟨1, 8, [.nilFunc], [0], .other⟩
  .nil) 114 ⟨4, 40, [.int .i64 0, .int .i64 0, .int .i64 0, .string ⟨#[]⟩], [0, 0, 0, 0], .struct [(0, 3), (1, 3), (2, 3), (3, 9)]⟩
  .nil) 115 ⟨4, 40, [.int .i64 0, .int .i64 0, .int .i64 0, .string ⟨#[]⟩], [0, 0, 0, 0], .struct [(0, 3), (1, 3), (2, 3), (3, 9)]⟩
  (.node (.node .nil 116 ⟨1, 8, [.nilFunc], [0], .other⟩
  .nil) 117 ⟨1, 8, [.nilFunc], [0], .other⟩
  .nil)))))) 118 ⟨1, 8, [.nilFunc], [0], .other⟩
  (.node (.node (.node (.node (.node (.node (.node .nil 119 ⟨4, 40, [.string ⟨#[]⟩, .int .i64 0, .int .i64 0, .int .i64 0], [0, 0, 0, 0], .struct [(0, 9), (1, 3), (2, 3), (3, 3)]⟩
  .nil) 120 ⟨1, 8, [.nilFunc], [0], .other⟩
  (.node .nil 121 ⟨1, 8, [.nilFunc], [0], .other⟩
  .nil)) 122 ⟨2, 24, [.string ⟨#[]⟩, .int .i64 0], [0, 0], .struct [(0, 9), (1, 3)]⟩
  (.node (.node .nil 123 ⟨1, 8, [.nilFunc], [0], .other⟩
  .nil) 124 ⟨1, 8, [.nilFunc], [0], .other⟩
  .nil)) 125 ⟨1, 8, [.nilFunc], [0], .other⟩
  (.node (.node (.node .nil 126 ⟨1, 8, [.nilFunc], [0], .other⟩
  .nil) 127 ⟨1, 8, [.nilFunc], [0], .other⟩
  (.node .nil 128 ⟨1, 24, [.slice none 0 0], [4], .sl 172⟩
  .nil)) 129 ⟨2, 32, [.int .i64 0, .slice none 0 0], [0, 4], .struct [(0, 3), (1, 128)]⟩
  (.node (.node .nil 130 ⟨2, 32, [.int .i64 0, .slice none 0 0], [0, 4], .struct [(0, 3), (1, 128)]⟩
  .nil) 131 ⟨5, 56, [.int .i64 0, .int .i64 0, .int .i64 0, .slice none 0 0, .int .i64 0], [0, 0, 0, 4, 0], .struct [(0, 3), (1, 3), (2, 130), (4, 3)]⟩
  .nil))) 132 ⟨5, 56, [.int .i64 0, .int .i64 0, .int .i64 0, .slice none 0 0, .int .i64 0], [0, 0, 0, 4, 0], .struct [(0, 3), (1, 3), (2, 130), (4, 3)]⟩
  (.node (.node (.node (.node .nil 133 ⟨1, 8, [.nilFunc], [0], .other⟩
  .nil) 134 ⟨4, 40, [.int .i64 0, .int .i64 0, .int .i64 0, .string ⟨#[]⟩], [0, 0, 0, 0], .struct [(0, 3), (1, 3), (2, 3), (3, 9)]⟩
  (.node .nil 135 ⟨1, 8, [.nilFunc], [0], .other⟩
  .nil)) 136 ⟨1, 8, [.nilFunc], [0], .other⟩
  (.node (.node .nil 137 ⟨1, 8, [.nilFunc], [0], .other⟩
  .nil) 138 ⟨1, 8, [.nilFunc], [0], .other⟩
  .nil)) 139 ⟨1, 8, [.nilFunc], [0], .other⟩
  (.node (.node (.node .nil 140 ⟨1, 8, [.nilFunc], [0], .other⟩
  .nil) 141 ⟨1, 8, [.nilFunc], [0], .other⟩
  .nil) 142 ⟨1, 8, [.nilFunc], [0], .other⟩
  (.node (.node .nil 143 ⟨1, 8, [.nilFunc], [0], .other⟩
  .nil) 144 ⟨1, 8, [.nilFunc], [0], .other⟩
  .nil)))) 145 ⟨1, 8, [.nilFunc], [0], .other⟩
  (.node (.node (.node (.node (.node .nil 146 ⟨1, 8, [.nilFunc], [0], .other⟩
  .nil) 147 ⟨1, 8, [.nilFunc], [0], .other⟩
  (.node .nil 148 ⟨1, 8, [.nilFunc], [0], .other⟩
  .nil)) 149 ⟨1, 8, [.nilFunc], [0], .other⟩
  (.node (.node .nil 150 ⟨1, 8, [.nilFunc], [0], .other⟩
  .nil) 151 ⟨1, 8, [.nilFunc], [0], .other⟩
  .nil)) 152 ⟨1, 8, [.nilFunc], [0], .other⟩
  (.node (.node (.node .nil 153 ⟨1, 8, [.nilFunc], [0], .other⟩
  .nil) 154 ⟨1, 8, [.nilFunc], [0], .other⟩
  .nil) 155 ⟨1, 24, [.slice none 0 0], [4], .sl 182⟩
  (.node (.node .nil 156 ⟨1, 8, [.nilFunc], [0], .other⟩
  .nil) 157 ⟨1, 8, [.nilFunc], [0], .other⟩
  .nil))) 158 ⟨1, 8, [.nilFunc], [0], .other⟩
  (.node (.node (.node (.node .nil 159 ⟨1, 8, [.nilFunc], [0], .other⟩
  .nil) 160 ⟨1, 8, [.nilFunc], [0], .other⟩
  (.node .nil 161 ⟨1, 8, [.nilFunc], [0], .other⟩
  .nil)) 162 ⟨1, 8, [.nilFunc], [0], .other⟩
  (.node (.node .nil 163 ⟨1, 8, [.nilFunc], [0], .other⟩
  .nil) 164 ⟨1, 8, [.nilFunc], [0], .other⟩
  .nil)) 165 ⟨1, 8, [.nilFunc], [0], .other⟩
  (.node (.node (.node .nil 166 ⟨1, 8, [.nilFunc], [0], .other⟩
  .nil) 167 ⟨1, 8, [.nilFunc], [0], .other⟩
  .nil) 168 ⟨1, 8, [.nilFunc], [0], .other⟩
  (.node (.node .nil 169 ⟨1, 8, [.nilFunc], [0], .other⟩
  .nil) 170 ⟨1, 8, [.nilFunc], [0], .other⟩
  .nil))))) 171 ⟨4, 40, [.int .i64 0, .string ⟨#[]⟩, .int .i64 0, .int .i64 0], [0, 0, 0, 0], .struct [(0, 3), (1, 9), (2, 3), (3, 3)]⟩
  (.node (.node (.node (.node (.node (.node .nil 172 ⟨4, 40, [.int .i64 0, .string ⟨#[]⟩, .int .i64 0, .int .i64 0], [0, 0, 0, 0], .struct [(0, 3), (1, 9), (2, 3), (3, 3)]⟩
  .nil) 173 ⟨1, 8, [.nilFunc], [0], .other⟩
  (.node .nil 174 ⟨1, 8, [.nilFunc], [0], .other⟩
  .nil)) 175 ⟨1, 8, [.nilFunc], [0], .other⟩
  (.node (.node .nil 176 ⟨1, 8, [.nilFunc], [0], .other⟩
  .nil) 177 ⟨1, 8, [.nilFunc], [0], .other⟩
  .nil)) 178 ⟨1, 8, [.nilFunc], [0], .other⟩
  (.node (.node (.node .nil 179 ⟨1, 8, [.nilFunc], [0], .other⟩
  .nil) 180 ⟨1, 8, [.nilFunc], [0], .other⟩
  .nil) 181 ⟨4, 32, [.int .i64 0, .bool false, .int .i64 0, .int .i64 0], [0, 0, 0, 0], .struct [(0, 3), (1, 4), (2, 3), (3, 3)]⟩
  (.node (.node .nil 182 ⟨4, 32, [.int .i64 0, .bool false, .int .i64 0, .int .i64 0], [0, 0, 0, 0], .struct [(0, 3), (1, 4), (2, 3), (3, 3)]⟩
  .nil) 183 ⟨1, 8, [.nilFunc], [0], .other⟩
  .nil))) 184 ⟨1, 8, [.nilFunc], [0], .other⟩
  (.node (.node (.node (.node .nil 185 ⟨1, 8, [.nilFunc], [0], .other⟩
  .nil) 186 ⟨1, 8, [.nilFunc], [0], .other⟩
  (.node .nil 187 ⟨1, 24, [.slice none 0 0], [1], .sl 62⟩
  .nil)) 188 ⟨1, 8, [.nilFunc], [0], .other⟩
  (.node (.node .nil 189 ⟨1, 8, [.nilFunc], [0], .other⟩
  .nil) 190 ⟨1, 8, [.nilFunc], [0], .other⟩
  .nil)) 191 ⟨1, 8, [.nilFunc], [0], .other⟩
  (.node (.node (.node .nil 192 ⟨1, 8, [.nilFunc], [0], .other⟩
  .nil) 193 ⟨1, 8, [.nilFunc], [0], .other⟩
  .nil) 194 ⟨1, 8, [.nilFunc], [0], .other⟩
  (.node (.node .nil 195 ⟨1, 8, [.nilFunc], [0], .other⟩
  .nil) 196 ⟨1, 8, [.nilFunc], [0], .other⟩
  .nil)))) 197 ⟨1, 8, [.nilFunc], [0], .other⟩
  (.node (.node (.node (.node (.node .nil 198 ⟨4, 40, [.int .i64 0, .string ⟨#[]⟩, .int .i64 0, .int .i64 0], [0, 0, 0, 0], .struct [(0, 3), (1, 9), (2, 3), (3, 3)]⟩
  .nil) 199 ⟨1, 8, [.nilFunc], [0], .other⟩
  (.node .nil 200 ⟨1, 8, [.nilFunc], [0], .other⟩
  .nil)) 201 ⟨1, 24, [.slice none 0 0], [1], .sl 5⟩
  (.node (.node .nil 202 ⟨1, 8, [.nilFunc], [0], .other⟩
  .nil) 203 ⟨1, 8, [.nilFunc], [0], .other⟩
  .nil)) 204 ⟨1, 8, [.nilFunc], [0], .other⟩
  (.node (.node (.node .nil 205 ⟨1, 8, [.nilFunc], [0], .other⟩
  .nil) 206 ⟨1, 8, [.nilFunc], [0], .other⟩
  .nil) 207 ⟨1, 8, [.map none], [0], .map 3 3⟩
  (.node (.node .nil 208 ⟨1, 8, [.nilFunc], [0], .other⟩
  .nil) 209 ⟨1, 8, [.nilFunc], [0], .other⟩
  .nil))) 210 ⟨1, 24, [.slice none 0 0], [1], .sl 4⟩
  (.node (.node (.node (.node .nil 211 ⟨1, 8, [.nilFunc], [0], .other⟩
  .nil) 212 ⟨1, 8, [.nilFunc], [0], .other⟩
  (.node .nil 213 ⟨1, 8, [.nilFunc], [0], .other⟩
  .nil)) 214 ⟨1, 8, [.nilFunc], [0], .other⟩
  (.node (.node .nil 215 ⟨1, 8, [.nilFunc], [0], .other⟩
  .nil) 221 ⟨1, 8, [.nilFunc], [0], .other⟩
  .nil)) 222 ⟨1, 4, [.int .u32 0], [0], .int .u32⟩
  (.node (.node (.node .nil 223 ⟨1, 1, [.int .u8 0], [0], .int .u8⟩
  .nil) 224 ⟨1, 1, [.int .u8 0], [0], .int .u8⟩
  .nil) 225 ⟨1, 8, [.nilFunc], [0], .other⟩
  (.node (.node .nil 227 ⟨1, 4, [.int .i32 0], [0], .int .i32⟩
  .nil) 228 ⟨1, 4, [.int .i32 0], [0], .int .i32⟩
  .nil)))))))

theorem Tryz.tok : TOk Tryz.prog Tryz.tab := tok_of (by kernel_rfl)
theorem Tryz.mixed : Tryz.prog.follows .mixedOrders = true := by kernel_rfl
end Go.Proofs
