import Derived.Test.YtcfhdflllpkggaaGreatAvZ
import Derived.Test.YtcfhdflllpkggaaGreatProg
import Derived.KernelRfl
namespace Go.Proofs
open Go Go.Av
def Tryz.tab : Tab :=
(.node (.node (.node (.node (.node (.node (.node (.node .nil 1 ⟨1, 8, [.nilFunc], [0], .other⟩
  .nil) 2 ⟨1, 8, [.int .i64 0], [0], .int .i64⟩
  (.node .nil 3 ⟨1, 8, [.int .i64 0], [0], .int .i64⟩
  .nil)) 4 ⟨1, 1, [.bool false], [0], .bool⟩
  (.node (.node .nil 5 ⟨1, 1, [.int .u8 0], [0], .int .u8⟩
  .nil) 6 ⟨1, 1, [.int .u8 0], [0], .int .u8⟩
  (.node .nil 9 ⟨1, 16, [.string ⟨#[]⟩], [0], .str⟩
  .nil))) 10 ⟨1, 16, [.string ⟨#[]⟩], [0], .str⟩
  (.node (.node (.node .nil 11 ⟨1, 16, [.string ⟨#[]⟩], [0], .str⟩
  .nil) 12 ⟨1, 8, [.int .u64 0], [0], .int .u64⟩
  (.node .nil 21 ⟨1, 4, [.int .i32 0], [0], .int .i32⟩
  .nil)) 22 ⟨1, 24, [.slice none 0 0], [4], .sl 108⟩
  (.node (.node .nil 23 ⟨1, 24, [.slice none 0 0], [2], .sl 111⟩
  .nil) 24 ⟨3, 32, [.int .i64 0, .int .i64 0, .string ⟨#[]⟩], [0, 0, 0], .struct [(0, 3), (1, 3), (2, 9)]⟩
  (.node .nil 25 ⟨3, 32, [.int .i64 0, .int .i64 0, .string ⟨#[]⟩], [0, 0, 0], .struct [(0, 3), (1, 3), (2, 9)]⟩
  .nil)))) 26 ⟨1, 24, [.slice none 0 0], [2], .sl 125⟩
  (.node (.node (.node (.node .nil 27 ⟨6, 80, [.int .i64 0, .int .i64 0, .string ⟨#[]⟩, .string ⟨#[]⟩, .slice none 0 0, .int .i64 0], [0, 0, 0, 0, 2, 0], .struct [(0, 25), (3, 9), (4, 26), (5, 3)]⟩
  .nil) 28 ⟨6, 80, [.int .i64 0, .int .i64 0, .string ⟨#[]⟩, .string ⟨#[]⟩, .slice none 0 0, .int .i64 0], [0, 0, 0, 0, 2, 0], .struct [(0, 25), (3, 9), (4, 26), (5, 3)]⟩
  (.node .nil 29 ⟨1, 24, [.slice none 0 0], [10], .sl 118⟩
  .nil)) 30 ⟨1, 24, [.slice none 0 0], [2], .sl 121⟩
  (.node (.node .nil 31 ⟨1, 24, [.slice none 0 0], [5], .sl 127⟩
  .nil) 32 ⟨1, 24, [.slice none 0 0], [4], .sl 129⟩
  (.node .nil 33 ⟨13, 232, [.slice none 0 0, .slice none 0 0, .int .i64 0, .int .i64 0, .string ⟨#[]⟩, .string ⟨#[]⟩, .slice none 0 0, .int .i64 0, .slice none 0 0, .slice none 0 0, .slice none 0 0, .slice none 0 0, .int .i64 0], [4, 2, 0, 0, 0, 0, 2, 0, 10, 2, 5, 4, 0], .struct [(0, 22), (1, 23), (2, 28), (8, 29), (9, 30), (10, 31), (11, 32), (12, 3)]⟩
  .nil))) 34 ⟨13, 232, [.slice none 0 0, .slice none 0 0, .int .i64 0, .int .i64 0, .string ⟨#[]⟩, .string ⟨#[]⟩, .slice none 0 0, .int .i64 0, .slice none 0 0, .slice none 0 0, .slice none 0 0, .slice none 0 0, .int .i64 0], [4, 2, 0, 0, 0, 0, 2, 0, 10, 2, 5, 4, 0], .struct [(0, 22), (1, 23), (2, 28), (8, 29), (9, 30), (10, 31), (11, 32), (12, 3)]⟩
  (.node (.node (.node .nil 35 ⟨1, 8, [.nilFunc], [0], .other⟩
  .nil) 36 ⟨1, 8, [.nilFunc], [0], .other⟩
  (.node .nil 37 ⟨1, 24, [.slice none 0 0], [4], .sl 133⟩
  .nil)) 38 ⟨1, 24, [.slice none 0 0], [2], .sl 135⟩
  (.node (.node .nil 39 ⟨3, 32, [.int .i64 0, .int .i64 0, .string ⟨#[]⟩], [0, 0, 0], .struct [(0, 3), (1, 3), (2, 9)]⟩
  .nil) 40 ⟨1, 24, [.slice none 0 0], [2], .sl 98⟩
  .nil)))) 41 ⟨6, 80, [.int .i64 0, .int .i64 0, .string ⟨#[]⟩, .string ⟨#[]⟩, .slice none 0 0, .int .i64 0], [0, 0, 0, 0, 2, 0], .struct [(0, 39), (3, 9), (4, 40), (5, 3)]⟩
  (.node (.node (.node (.node (.node .nil 42 ⟨6, 80, [.int .i64 0, .int .i64 0, .string ⟨#[]⟩, .string ⟨#[]⟩, .slice none 0 0, .int .i64 0], [0, 0, 0, 0, 2, 0], .struct [(0, 39), (3, 9), (4, 40), (5, 3)]⟩
  .nil) 43 ⟨1, 24, [.slice none 0 0], [10], .sl 67⟩
  (.node .nil 44 ⟨1, 24, [.slice none 0 0], [2], .sl 140⟩
  .nil)) 45 ⟨1, 24, [.slice none 0 0], [5], .sl 100⟩
  (.node (.node .nil 46 ⟨1, 24, [.slice none 0 0], [4], .sl 86⟩
  .nil) 47 ⟨13, 232, [.slice none 0 0, .slice none 0 0, .int .i64 0, .int .i64 0, .string ⟨#[]⟩, .string ⟨#[]⟩, .slice none 0 0, .int .i64 0, .slice none 0 0, .slice none 0 0, .slice none 0 0, .slice none 0 0, .int .i64 0], [4, 2, 0, 0, 0, 0, 2, 0, 10, 2, 5, 4, 0], .struct [(0, 37), (1, 38), (2, 42), (8, 43), (9, 44), (10, 45), (11, 46), (12, 3)]⟩
  (.node .nil 48 ⟨13, 232, [.slice none 0 0, .slice none 0 0, .int .i64 0, .int .i64 0, .string ⟨#[]⟩, .string ⟨#[]⟩, .slice none 0 0, .int .i64 0, .slice none 0 0, .slice none 0 0, .slice none 0 0, .slice none 0 0, .int .i64 0], [4, 2, 0, 0, 0, 0, 2, 0, 10, 2, 5, 4, 0], .struct [(0, 37), (1, 38), (2, 42), (8, 43), (9, 44), (10, 45), (11, 46), (12, 3)]⟩
  .nil))) 49 ⟨1, 8, [.nilFunc], [0], .other⟩
  (.node (.node (.node .nil 50 ⟨1, 8, [.nilFunc], [0], .other⟩
  .nil) 51 ⟨1, 8, [.nilFunc], [0], .other⟩
  (.node .nil 52 ⟨1, 8, [.nilFunc], [0], .other⟩
  .nil)) 53 ⟨1, 8, [.nilFunc], [0], .other⟩
  (.node (.node .nil 54 ⟨1, 8, [.nilFunc], [0], .other⟩
  .nil) 55 ⟨1, 8, [.nilFunc], [0], .other⟩
  .nil))) 56 ⟨1, 8, [.nilFunc], [0], .other⟩
  (.node (.node (.node (.node .nil 57 ⟨1, 8, [.nilFunc], [0], .other⟩
  .nil) 58 ⟨1, 8, [.nilFunc], [0], .other⟩
  (.node .nil 59 ⟨1, 8, [.nilFunc], [0], .other⟩
  .nil)) 60 ⟨1, 8, [.nilFunc], [0], .other⟩
  (.node (.node .nil 61 ⟨1, 8, [.nilFunc], [0], .other⟩
  .nil) 62 ⟨1, 8, [.nilFunc], [0], .other⟩
  (.node .nil 63 ⟨1, 24, [.slice none 0 0], [1], .sl 3⟩
  .nil))) 64 ⟨6, 88, [.int .i64 0, .int .i64 0, .string ⟨#[]⟩, .slice none 0 0, .slice none 0 0, .int .i64 0], [0, 0, 0, 2, 1, 0], .struct [(0, 39), (3, 40), (4, 63), (5, 3)]⟩
  (.node (.node (.node .nil 65 ⟨6, 88, [.int .i64 0, .int .i64 0, .string ⟨#[]⟩, .slice none 0 0, .slice none 0 0, .int .i64 0], [0, 0, 0, 2, 1, 0], .struct [(0, 39), (3, 40), (4, 63), (5, 3)]⟩
  .nil) 66 ⟨10, 128, [.int .i64 0, .int .i64 0, .int .i64 0, .string ⟨#[]⟩, .slice none 0 0, .slice none 0 0, .int .i64 0, .string ⟨#[]⟩, .int .i64 0, .int .i64 0], [0, 0, 0, 0, 2, 1, 0, 0, 0, 0], .struct [(0, 3), (1, 65), (7, 9), (8, 3), (9, 3)]⟩
  (.node .nil 67 ⟨10, 128, [.int .i64 0, .int .i64 0, .int .i64 0, .string ⟨#[]⟩, .slice none 0 0, .slice none 0 0, .int .i64 0, .string ⟨#[]⟩, .int .i64 0, .int .i64 0], [0, 0, 0, 0, 2, 1, 0, 0, 0, 0], .struct [(0, 3), (1, 65), (7, 9), (8, 3), (9, 3)]⟩
  .nil)) 69 ⟨1, 8, [.nilFunc], [0], .other⟩
  (.node (.node .nil 70 ⟨1, 8, [.nilFunc], [0], .other⟩
  .nil) 71 ⟨1, 8, [.nilFunc], [0], .other⟩
  .nil))))) 72 ⟨1, 8, [.nilFunc], [0], .other⟩
  (.node (.node (.node (.node (.node (.node .nil 73 ⟨1, 8, [.nilFunc], [0], .other⟩
  .nil) 74 ⟨1, 8, [.nilFunc], [0], .other⟩
  (.node .nil 75 ⟨1, 8, [.nilFunc], [0], .other⟩
  .nil)) 76 ⟨1, 8, [.nilFunc], [0], .other⟩
  (.node (.node .nil 77 ⟨1, 8, [.nilFunc], [0], .other⟩
  .nil) 78 ⟨1, 8, [.nilFunc], [0], .other⟩
  (.node .nil 79 ⟨1, 8, [.nilFunc], [0], .other⟩
  .nil))) 80 ⟨1, 8, [.nilFunc], [0], .other⟩
  (.node (.node (.node .nil 81 ⟨1, 8, [.nilFunc], [0], .other⟩
  .nil) 82 ⟨1, 8, [.nilFunc], [0], .other⟩
  (.node .nil 83 ⟨1, 8, [.nilFunc], [0], .other⟩
  .nil)) 84 ⟨1, 8, [.nilFunc], [0], .other⟩
  (.node (.node .nil 85 ⟨4, 40, [.int .i64 0, .int .i64 0, .int .i64 0, .string ⟨#[]⟩], [0, 0, 0, 0], .struct [(0, 3), (1, 3), (2, 3), (3, 9)]⟩
  .nil) 86 ⟨4, 40, [.int .i64 0, .int .i64 0, .int .i64 0, .string ⟨#[]⟩], [0, 0, 0, 0], .struct [(0, 3), (1, 3), (2, 3), (3, 9)]⟩
  (.node .nil 87 ⟨1, 8, [.nilFunc], [0], .other⟩
  .nil)))) 88 ⟨1, 8, [.nilFunc], [0], .other⟩
  (.node (.node (.node (.node .nil 89 ⟨1, 8, [.nilFunc], [0], .other⟩
  .nil) 90 ⟨1, 8, [.nilFunc], [0], .other⟩
  (.node .nil 91 ⟨1, 8, [.nilFunc], [0], .other⟩
  .nil)) 92 ⟨1, 8, [.nilFunc], [0], .other⟩
  (.node (.node .nil 93 ⟨1, 8, [.nilFunc], [0], .other⟩
  .nil) 94 ⟨1, 8, [.nilFunc], [0], .other⟩
  (.node .nil 95 ⟨1, 8, [.nilFunc], [0], .other⟩
  .nil))) 96 ⟨1, 24, [.slice none 0 0], [4], .sl 179⟩
  (.node (.node (.node .nil 97 ⟨2, 32, [.int .i64 0, .slice none 0 0], [0, 4], .struct [(0, 3), (1, 96)]⟩
  .nil) 98 ⟨2, 32, [.int .i64 0, .slice none 0 0], [0, 4], .struct [(0, 3), (1, 96)]⟩
  (.node .nil 99 ⟨5, 56, [.int .i64 0, .int .i64 0, .int .i64 0, .slice none 0 0, .int .i64 0], [0, 0, 0, 4, 0], .struct [(0, 3), (1, 3), (2, 98), (4, 3)]⟩
  .nil)) 100 ⟨5, 56, [.int .i64 0, .int .i64 0, .int .i64 0, .slice none 0 0, .int .i64 0], [0, 0, 0, 4, 0], .struct [(0, 3), (1, 3), (2, 98), (4, 3)]⟩
  (.node (.node .nil 101 ⟨1, 8, [.nilFunc], [0], .other⟩
  .nil) 102 ⟨1, 8, [.nilFunc], [0], .other⟩
  .nil)))) 103 ⟨1, 8, [.nilFunc], [0], .other⟩
  (.node (.node (.node (.node (.node .nil 104 ⟨1, 8, [.nilFunc], [0], .other⟩
  .nil) 105 ⟨1, 8, [.nilFunc], [0], .other⟩
  (.node .nil 106 ⟨1, 8, [.nilFunc], [0], .other⟩
  .nil)) 107 ⟨4, 40, [.string ⟨#[]⟩, .int .i64 0, .int .i64 0, .int .i64 0], [0, 0, 0, 0], .struct [(0, 9), (1, 3), (2, 3), (3, 3)]⟩
  (.node (.node .nil 108 ⟨4, 40, [.string ⟨#[]⟩, .int .i64 0, .int .i64 0, .int .i64 0], [0, 0, 0, 0], .struct [(0, 9), (1, 3), (2, 3), (3, 3)]⟩
  .nil) 109 ⟨1, 8, [.nilFunc], [0], .other⟩
  (.node .nil 110 ⟨2, 24, [.string ⟨#[]⟩, .int .i64 0], [0, 0], .struct [(0, 9), (1, 3)]⟩
  .nil))) 111 ⟨2, 24, [.string ⟨#[]⟩, .int .i64 0], [0, 0], .struct [(0, 9), (1, 3)]⟩
  (.node (.node (.node .nil 112 ⟨1, 8, [.nilFunc], [0], .other⟩
  .nil) 113 ⟨1, 8, [.nilFunc], [0], .other⟩
  (.node .nil 114 ⟨1, 8, [.nilFunc], [0], .other⟩
  .nil)) 115 ⟨6, 88, [.int .i64 0, .int .i64 0, .string ⟨#[]⟩, .slice none 0 0, .slice none 0 0, .int .i64 0], [0, 0, 0, 2, 1, 0], .struct [(0, 25), (3, 26), (4, 63), (5, 3)]⟩
  (.node (.node .nil 116 ⟨6, 88, [.int .i64 0, .int .i64 0, .string ⟨#[]⟩, .slice none 0 0, .slice none 0 0, .int .i64 0], [0, 0, 0, 2, 1, 0], .struct [(0, 25), (3, 26), (4, 63), (5, 3)]⟩
  .nil) 117 ⟨10, 128, [.int .i64 0, .int .i64 0, .int .i64 0, .string ⟨#[]⟩, .slice none 0 0, .slice none 0 0, .int .i64 0, .string ⟨#[]⟩, .int .i64 0, .int .i64 0], [0, 0, 0, 0, 2, 1, 0, 0, 0, 0], .struct [(0, 3), (1, 116), (7, 9), (8, 3), (9, 3)]⟩
  .nil))) 118 ⟨10, 128, [.int .i64 0, .int .i64 0, .int .i64 0, .string ⟨#[]⟩, .slice none 0 0, .slice none 0 0, .int .i64 0, .string ⟨#[]⟩, .int .i64 0, .int .i64 0], [0, 0, 0, 0, 2, 1, 0, 0, 0, 0], .struct [(0, 3), (1, 116), (7, 9), (8, 3), (9, 3)]⟩
  (.node (.node (.node (.node .nil 119 ⟨1, 8, [.nilFunc], [0], .other⟩
  .nil) 120 ⟨2, 24, [.string ⟨#[]⟩, .int .i64 0], [0, 0], .struct [(0, 9), (1, 3)]⟩
  (.node .nil 121 ⟨2, 24, [.string ⟨#[]⟩, .int .i64 0], [0, 0], .struct [(0, 9), (1, 3)]⟩
  .nil)) 122 ⟨1, 8, [.nilFunc], [0], .other⟩
  (.node (.node .nil 123 ⟨1, 24, [.slice none 0 0], [4], .sl 216⟩
  .nil) 124 ⟨2, 32, [.int .i64 0, .slice none 0 0], [0, 4], .struct [(0, 3), (1, 123)]⟩
  (.node .nil 125 ⟨2, 32, [.int .i64 0, .slice none 0 0], [0, 4], .struct [(0, 3), (1, 123)]⟩
  .nil))) 126 ⟨5, 56, [.int .i64 0, .int .i64 0, .int .i64 0, .slice none 0 0, .int .i64 0], [0, 0, 0, 4, 0], .struct [(0, 3), (1, 3), (2, 125), (4, 3)]⟩
  (.node (.node (.node .nil 127 ⟨5, 56, [.int .i64 0, .int .i64 0, .int .i64 0, .slice none 0 0, .int .i64 0], [0, 0, 0, 4, 0], .struct [(0, 3), (1, 3), (2, 125), (4, 3)]⟩
  .nil) 128 ⟨1, 8, [.nilFunc], [0], .other⟩
  (.node .nil 129 ⟨4, 40, [.int .i64 0, .int .i64 0, .int .i64 0, .string ⟨#[]⟩], [0, 0, 0, 0], .struct [(0, 3), (1, 3), (2, 3), (3, 9)]⟩
  .nil)) 130 ⟨1, 8, [.nilFunc], [0], .other⟩
  (.node (.node .nil 131 ⟨1, 8, [.nilFunc], [0], .other⟩
  .nil) 132 ⟨1, 8, [.nilFunc], [0], .other⟩
  .nil)))))) 133 ⟨4, 40, [.string ⟨#[]⟩, .int .i64 0, .int .i64 0, .int .i64 0], [0, 0, 0, 0], .struct [(0, 9), (1, 3), (2, 3), (3, 3)]⟩
  (.node (.node (.node (.node (.node (.node (.node .nil 134 ⟨1, 8, [.nilFunc], [0], .other⟩
  .nil) 135 ⟨2, 24, [.string ⟨#[]⟩, .int .i64 0], [0, 0], .struct [(0, 9), (1, 3)]⟩
  (.node .nil 136 ⟨1, 8, [.nilFunc], [0], .other⟩
  .nil)) 137 ⟨1, 8, [.nilFunc], [0], .other⟩
  (.node (.node .nil 138 ⟨1, 8, [.nilFunc], [0], .other⟩
  .nil) 139 ⟨1, 8, [.nilFunc], [0], .other⟩
  (.node .nil 140 ⟨2, 24, [.string ⟨#[]⟩, .int .i64 0], [0, 0], .struct [(0, 9), (1, 3)]⟩
  .nil))) 141 ⟨1, 8, [.nilFunc], [0], .other⟩
  (.node (.node (.node .nil 142 ⟨1, 8, [.nilFunc], [0], .other⟩
  .nil) 143 ⟨1, 8, [.nilFunc], [0], .other⟩
  (.node .nil 144 ⟨1, 8, [.nilFunc], [0], .other⟩
  .nil)) 145 ⟨1, 8, [.nilFunc], [0], .other⟩
  (.node (.node .nil 146 ⟨1, 8, [.nilFunc], [0], .other⟩
  .nil) 147 ⟨1, 8, [.nilFunc], [0], .other⟩
  (.node .nil 148 ⟨1, 8, [.nilFunc], [0], .other⟩
  .nil)))) 149 ⟨1, 8, [.nilFunc], [0], .other⟩
  (.node (.node (.node (.node .nil 150 ⟨1, 8, [.nilFunc], [0], .other⟩
  .nil) 151 ⟨1, 8, [.nilFunc], [0], .other⟩
  (.node .nil 152 ⟨1, 8, [.nilFunc], [0], .other⟩
  .nil)) 153 ⟨1, 8, [.nilFunc], [0], .other⟩
  (.node (.node .nil 154 ⟨1, 8, [.nilFunc], [0], .other⟩
  .nil) 155 ⟨1, 8, [.nilFunc], [0], .other⟩
  (.node .nil 156 ⟨1, 8, [.nilFunc], [0], .other⟩
  .nil))) 157 ⟨1, 8, [.nilFunc], [0], .other⟩
  (.node (.node (.node .nil 158 ⟨1, 8, [.nilFunc], [0], .other⟩
  .nil) 159 ⟨1, 24, [.slice none 0 0], [4], .sl 171⟩
  (.node .nil 160 ⟨1, 8, [.nilFunc], [0], .other⟩
  .nil)) 161 ⟨1, 8, [.nilFunc], [0], .other⟩
  (.node (.node .nil 162 ⟨1, 8, [.nilFunc], [0], .other⟩
  .nil) 163 ⟨1, 8, [.nilFunc], [0], .other⟩
  .nil)))) 164 ⟨1, 8, [.nilFunc], [0], .other⟩
  (.node (.node (.node (.node (.node .nil 165 ⟨1, 8, [.nilFunc], [0], .other⟩
  .nil) 166 ⟨1, 8, [.nilFunc], [0], .other⟩
  (.node .nil 167 ⟨1, 8, [.nilFunc], [0], .other⟩
  .nil)) 168 ⟨1, 8, [.nilFunc], [0], .other⟩
  (.node (.node .nil 169 ⟨1, 8, [.nilFunc], [0], .other⟩
  .nil) 170 ⟨4, 32, [.int .i64 0, .bool false, .int .i64 0, .int .i64 0], [0, 0, 0, 0], .struct [(0, 3), (1, 4), (2, 3), (3, 3)]⟩
  (.node .nil 171 ⟨4, 32, [.int .i64 0, .bool false, .int .i64 0, .int .i64 0], [0, 0, 0, 0], .struct [(0, 3), (1, 4), (2, 3), (3, 3)]⟩
  .nil))) 172 ⟨1, 8, [.nilFunc], [0], .other⟩
  (.node (.node (.node .nil 173 ⟨1, 24, [.slice none 0 0], [1], .sl 9⟩
  .nil) 174 ⟨1, 8, [.nilFunc], [0], .other⟩
  (.node .nil 175 ⟨1, 8, [.nilFunc], [0], .other⟩
  .nil)) 176 ⟨1, 8, [.nilFunc], [0], .other⟩
  (.node (.node .nil 177 ⟨1, 8, [.nilFunc], [0], .other⟩
  .nil) 178 ⟨4, 40, [.int .i64 0, .string ⟨#[]⟩, .int .i64 0, .int .i64 0], [0, 0, 0, 0], .struct [(0, 3), (1, 9), (2, 3), (3, 3)]⟩
  .nil))) 179 ⟨4, 40, [.int .i64 0, .string ⟨#[]⟩, .int .i64 0, .int .i64 0], [0, 0, 0, 0], .struct [(0, 3), (1, 9), (2, 3), (3, 3)]⟩
  (.node (.node (.node (.node .nil 180 ⟨1, 8, [.nilFunc], [0], .other⟩
  .nil) 181 ⟨1, 8, [.nilFunc], [0], .other⟩
  (.node .nil 182 ⟨1, 8, [.nilFunc], [0], .other⟩
  .nil)) 183 ⟨1, 8, [.nilFunc], [0], .other⟩
  (.node (.node .nil 184 ⟨1, 8, [.nilFunc], [0], .other⟩
  .nil) 185 ⟨1, 8, [.nilFunc], [0], .other⟩
  (.node .nil 186 ⟨1, 8, [.nilFunc], [0], .other⟩
  .nil))) 187 ⟨1, 8, [.nilFunc], [0], .other⟩
  (.node (.node (.node .nil 188 ⟨1, 8, [.nilFunc], [0], .other⟩
  .nil) 189 ⟨1, 8, [.nilFunc], [0], .other⟩
  (.node .nil 190 ⟨1, 8, [.nilFunc], [0], .other⟩
  .nil)) 191 ⟨1, 8, [.nilFunc], [0], .other⟩
  (.node (.node .nil 192 ⟨1, 8, [.nilFunc], [0], .other⟩
  .nil) 193 ⟨1, 8, [.nilFunc], [0], .other⟩
  .nil))))) 194 ⟨1, 8, [.nilFunc], [0], .other⟩
  (.node (.node (.node (.node (.node (.node .nil 195 ⟨1, 8, [.nilFunc], [0], .other⟩
  .nil) 196 ⟨1, 24, [.slice none 0 0], [1], .sl 63⟩
  (.node .nil 197 ⟨1, 8, [.nilFunc], [0], .other⟩
  .nil)) 198 ⟨1, 8, [.nilFunc], [0], .other⟩
  (.node (.node .nil 199 ⟨1, 8, [.nilFunc], [0], .other⟩
  .nil) 200 ⟨1, 8, [.nilFunc], [0], .other⟩
  (.node .nil 201 ⟨1, 8, [.nilFunc], [0], .other⟩
  .nil))) 202 ⟨1, 8, [.nilFunc], [0], .other⟩
  (.node (.node (.node .nil 203 ⟨1, 8, [.nilFunc], [0], .other⟩
  .nil) 204 ⟨1, 8, [.nilFunc], [0], .other⟩
  (.node .nil 205 ⟨1, 8, [.nilFunc], [0], .other⟩
  .nil)) 206 ⟨1, 8, [.nilFunc], [0], .other⟩
  (.node (.node .nil 207 ⟨1, 8, [.nilFunc], [0], .other⟩
  .nil) 208 ⟨1, 8, [.nilFunc], [0], .other⟩
  .nil))) 209 ⟨1, 8, [.map none], [0], .map 3 3⟩
  (.node (.node (.node (.node .nil 210 ⟨1, 8, [.nilFunc], [0], .other⟩
  .nil) 211 ⟨1, 8, [.nilFunc], [0], .other⟩
  (.node .nil 212 ⟨1, 8, [.nilFunc], [0], .other⟩
  .nil)) 213 ⟨1, 8, [.nilFunc], [0], .other⟩
  (.node (.node .nil 214 ⟨1, 24, [.slice none 0 0], [1], .sl 5⟩
  .nil) 215 ⟨1, 8, [.nilFunc], [0], .other⟩
  (.node .nil 216 ⟨4, 40, [.int .i64 0, .string ⟨#[]⟩, .int .i64 0, .int .i64 0], [0, 0, 0, 0], .struct [(0, 3), (1, 9), (2, 3), (3, 3)]⟩
  .nil))) 217 ⟨1, 8, [.nilFunc], [0], .other⟩
  (.node (.node (.node .nil 218 ⟨1, 8, [.nilFunc], [0], .other⟩
  .nil) 219 ⟨1, 8, [.nilFunc], [0], .other⟩
  (.node .nil 220 ⟨1, 8, [.nilFunc], [0], .other⟩
  .nil)) 221 ⟨1, 24, [.slice none 0 0], [1], .sl 4⟩
  (.node (.node .nil 222 ⟨1, 8, [.nilFunc], [0], .other⟩
  .nil) 223 ⟨1, 8, [.nilFunc], [0], .other⟩
  .nil)))) 224 ⟨1, 8, [.nilFunc], [0], .other⟩
  (.node (.node (.node (.node (.node .nil 225 ⟨1, 8, [.nilFunc], [0], .other⟩
  .nil) 226 ⟨1, 8, [.nilFunc], [0], .other⟩
  (.node .nil 227 ⟨1, 8, [.nilFunc], [0], .other⟩
  .nil)) 228 ⟨1, 8, [.int .u64 0], [0], .int .u64⟩
  (.node (.node .nil 229 ⟨1, 8, [.nilFunc], [0], .other⟩
  .nil) 230 ⟨1, 8, [.int .i64 0], [0], .int .i64⟩
  (.node .nil 232 ⟨1, 8, [.nilFunc], [0], .other⟩
  .nil))) 233 ⟨1, 8, [.nilFunc], [0], .other⟩
  (.node (.node (.node .nil 234 ⟨1, 8, [.nilFunc], [0], .other⟩
  .nil) 235 ⟨1, 8, [.nilFunc], [0], .other⟩
  (.node .nil 237 ⟨1, 8, [.nilFunc], [0], .other⟩
  .nil)) 238 ⟨1, 8, [.nilFunc], [0], .other⟩
  (.node (.node .nil 239 ⟨1, 4, [.int .u32 0], [0], .int .u32⟩
  .nil) 240 ⟨1, 8, [.nilFunc], [0], .other⟩
  .nil))) 241 ⟨1, 8, [.int .u64 0], [0], .int .u64⟩
  (.node (.node (.node (.node .nil 242 ⟨1, 8, [.int .u64 0], [0], .int .u64⟩
  .nil) 243 ⟨1, 8, [.nilFunc], [0], .other⟩
  (.node .nil 244 ⟨1, 8, [.nilFunc], [0], .other⟩
  .nil)) 245 ⟨1, 8, [.nilFunc], [0], .other⟩
  (.node (.node .nil 247 ⟨1, 8, [.nilFunc], [0], .other⟩
  .nil) 250 ⟨1, 8, [.nilFunc], [0], .other⟩
  (.node .nil 251 ⟨1, 8, [.nilFunc], [0], .other⟩
  .nil))) 257 ⟨1, 8, [.nilFunc], [0], .other⟩
  (.node (.node (.node .nil 258 ⟨1, 1, [.int .u8 0], [0], .int .u8⟩
  .nil) 259 ⟨1, 1, [.int .u8 0], [0], .int .u8⟩
  (.node .nil 260 ⟨1, 8, [.nilFunc], [0], .other⟩
  .nil)) 262 ⟨1, 4, [.int .i32 0], [0], .int .i32⟩
  (.node (.node .nil 263 ⟨1, 4, [.int .i32 0], [0], .int .i32⟩
  .nil) 266 ⟨1, 8, [.nilFunc], [0], .other⟩
  .nil)))))))

theorem Tryz.tok : TOk Tryz.prog Tryz.tab := tok_of (by kernel_rfl)
theorem Tryz.mixed : Tryz.prog.follows .mixedOrders = true := by kernel_rfl
end Go.Proofs
