import Derived.Test.YtniibgdokfnomaaGreatAvZ
import Derived.Test.YtniibgdokfnomaaGreatProg
import Derived.KernelRfl
namespace Go.Proofs
open Go Go.Av
def Tryz.tab:Tab:=
(.node (.node (.node (.node (.node (.node (.node (.node (.node .nil 1 ⟨1,8,[.nilFunc],[0],.other⟩
 .nil) 2 ⟨1,8,[.int .i64 0],[0],.int .i64⟩
 .nil) 3 ⟨1,8,[.int .i64 0],[0],.int .i64⟩
 (.node .nil 4 ⟨1,1,[.bool false],[0],.bool⟩
 .nil)) 5 ⟨1,1,[.int .u8 0],[0],.int .u8⟩
 (.node (.node .nil 6 ⟨1,1,[.int .u8 0],[0],.int .u8⟩
 .nil) 9 ⟨1,16,[.string ⟨#[]⟩],[0],.str⟩
 (.node .nil 10 ⟨1,16,[.string ⟨#[]⟩],[0],.str⟩
 .nil))) 11 ⟨1,16,[.string ⟨#[]⟩],[0],.str⟩
 (.node (.node (.node (.node .nil 12 ⟨1,8,[.int .u64 0],[0],.int .u64⟩
 .nil) 21 ⟨1,4,[.int .i32 0],[0],.int .i32⟩
 .nil) 22 ⟨1,24,[.slice none 0 0],[4],.sl 53⟩
 (.node .nil 23 ⟨1,24,[.slice none 0 0],[2],.sl 55⟩
 .nil)) 24 ⟨3,32,[.int .i64 0,.int .i64 0,.string ⟨#[]⟩],[0,0,0],.struct [(0,3),(1,3),(2,9)]⟩
 (.node (.node .nil 25 ⟨3,32,[.int .i64 0,.int .i64 0,.string ⟨#[]⟩],[0,0,0],.struct [(0,3),(1,3),(2,9)]⟩
 .nil) 26 ⟨1,24,[.slice none 0 0],[2],.sl 133⟩
 (.node .nil 27 ⟨6,80,[.int .i64 0,.int .i64 0,.string ⟨#[]⟩,.string ⟨#[]⟩,.slice none 0 0,.int .i64 0],[0,0,0,0,2,0],.struct [(0,25),(3,9),(4,26),(5,3)]⟩
 .nil)))) 28 ⟨6,80,[.int .i64 0,.int .i64 0,.string ⟨#[]⟩,.string ⟨#[]⟩,.slice none 0 0,.int .i64 0],[0,0,0,0,2,0],.struct [(0,25),(3,9),(4,26),(5,3)]⟩
 (.node (.node (.node (.node (.node .nil 29 ⟨1,24,[.slice none 0 0],[10],.sl 127⟩
 .nil) 30 ⟨1,24,[.slice none 0 0],[2],.sl 129⟩
 .nil) 31 ⟨1,24,[.slice none 0 0],[5],.sl 135⟩
 (.node .nil 32 ⟨1,24,[.slice none 0 0],[4],.sl 138⟩
 .nil)) 33 ⟨13,232,[.slice none 0 0,.slice none 0 0,.int .i64 0,.int .i64 0,.string ⟨#[]⟩,.string ⟨#[]⟩,.slice none 0 0,.int .i64 0,.slice none 0 0,.slice none 0 0,.slice none 0 0,.slice none 0 0,.int .i64 0],[4,2,0,0,0,0,2,0,10,2,5,4,0],.struct [(0,22),(1,23),(2,28),(8,29),(9,30),(10,31),(11,32),(12,3)]⟩
 (.node (.node .nil 34 ⟨13,232,[.slice none 0 0,.slice none 0 0,.int .i64 0,.int .i64 0,.string ⟨#[]⟩,.string ⟨#[]⟩,.slice none 0 0,.int .i64 0,.slice none 0 0,.slice none 0 0,.slice none 0 0,.slice none 0 0,.int .i64 0],[4,2,0,0,0,0,2,0,10,2,5,4,0],.struct [(0,22),(1,23),(2,28),(8,29),(9,30),(10,31),(11,32),(12,3)]⟩
 .nil) 35 ⟨1,8,[.nilFunc],[0],.other⟩
 (.node .nil 36 ⟨1,8,[.nilFunc],[0],.other⟩
 .nil))) 37 ⟨1,24,[.slice none 0 0],[4],.sl 60⟩
 (.node (.node (.node (.node .nil 38 ⟨1,24,[.slice none 0 0],[2],.sl 62⟩
 .nil) 39 ⟨3,32,[.int .i64 0,.int .i64 0,.string ⟨#[]⟩],[0,0,0],.struct [(0,3),(1,3),(2,9)]⟩
 .nil) 40 ⟨1,24,[.slice none 0 0],[2],.sl 116⟩
 (.node .nil 41 ⟨6,80,[.int .i64 0,.int .i64 0,.string ⟨#[]⟩,.string ⟨#[]⟩,.slice none 0 0,.int .i64 0],[0,0,0,0,2,0],.struct [(0,39),(3,9),(4,40),(5,3)]⟩
 .nil)) 42 ⟨6,80,[.int .i64 0,.int .i64 0,.string ⟨#[]⟩,.string ⟨#[]⟩,.slice none 0 0,.int .i64 0],[0,0,0,0,2,0],.struct [(0,39),(3,9),(4,40),(5,3)]⟩
 (.node (.node .nil 43 ⟨1,24,[.slice none 0 0],[10],.sl 82⟩
 .nil) 44 ⟨1,24,[.slice none 0 0],[2],.sl 84⟩
 (.node .nil 45 ⟨1,24,[.slice none 0 0],[5],.sl 147⟩
 .nil))))) 46 ⟨1,24,[.slice none 0 0],[4],.sl 149⟩
 (.node (.node (.node (.node (.node (.node .nil 47 ⟨13,232,[.slice none 0 0,.slice none 0 0,.int .i64 0,.int .i64 0,.string ⟨#[]⟩,.string ⟨#[]⟩,.slice none 0 0,.int .i64 0,.slice none 0 0,.slice none 0 0,.slice none 0 0,.slice none 0 0,.int .i64 0],[4,2,0,0,0,0,2,0,10,2,5,4,0],.struct [(0,37),(1,38),(2,42),(8,43),(9,44),(10,45),(11,46),(12,3)]⟩
 .nil) 48 ⟨13,232,[.slice none 0 0,.slice none 0 0,.int .i64 0,.int .i64 0,.string ⟨#[]⟩,.string ⟨#[]⟩,.slice none 0 0,.int .i64 0,.slice none 0 0,.slice none 0 0,.slice none 0 0,.slice none 0 0,.int .i64 0],[4,2,0,0,0,0,2,0,10,2,5,4,0],.struct [(0,37),(1,38),(2,42),(8,43),(9,44),(10,45),(11,46),(12,3)]⟩
 .nil) 49 ⟨1,8,[.nilFunc],[0],.other⟩
 (.node .nil 50 ⟨1,8,[.nilFunc],[0],.other⟩
 .nil)) 51 ⟨1,8,[.nilFunc],[0],.other⟩
 (.node (.node .nil 52 ⟨4,40,[.string ⟨#[]⟩,.int .i64 0,.int .i64 0,.int .i64 0],[0,0,0,0],.struct [(0,9),(1,3),(2,3),(3,3)]⟩
 .nil) 53 ⟨4,40,[.string ⟨#[]⟩,.int .i64 0,.int .i64 0,.int .i64 0],[0,0,0,0],.struct [(0,9),(1,3),(2,3),(3,3)]⟩
 (.node .nil 54 ⟨2,24,[.string ⟨#[]⟩,.int .i64 0],[0,0],.struct [(0,9),(1,3)]⟩
 .nil))) 55 ⟨2,24,[.string ⟨#[]⟩,.int .i64 0],[0,0],.struct [(0,9),(1,3)]⟩
 (.node (.node (.node (.node .nil 56 ⟨1,8,[.nilFunc],[0],.other⟩
 .nil) 57 ⟨1,8,[.nilFunc],[0],.other⟩
 .nil) 59 ⟨1,8,[.nilFunc],[0],.other⟩
 (.node .nil 60 ⟨4,40,[.string ⟨#[]⟩,.int .i64 0,.int .i64 0,.int .i64 0],[0,0,0,0],.struct [(0,9),(1,3),(2,3),(3,3)]⟩
 .nil)) 61 ⟨1,8,[.nilFunc],[0],.other⟩
 (.node (.node .nil 62 ⟨2,24,[.string ⟨#[]⟩,.int .i64 0],[0,0],.struct [(0,9),(1,3)]⟩
 .nil) 63 ⟨1,8,[.nilFunc],[0],.other⟩
 (.node .nil 64 ⟨1,8,[.nilFunc],[0],.other⟩
 .nil)))) 65 ⟨1,8,[.nilFunc],[0],.other⟩
 (.node (.node (.node (.node (.node .nil 66 ⟨1,8,[.nilFunc],[0],.other⟩
 .nil) 67 ⟨1,8,[.nilFunc],[0],.other⟩
 .nil) 68 ⟨1,8,[.nilFunc],[0],.other⟩
 (.node .nil 69 ⟨1,8,[.nilFunc],[0],.other⟩
 .nil)) 70 ⟨1,8,[.nilFunc],[0],.other⟩
 (.node (.node .nil 71 ⟨1,8,[.nilFunc],[0],.other⟩
 .nil) 72 ⟨1,8,[.nilFunc],[0],.other⟩
 (.node .nil 73 ⟨1,8,[.nilFunc],[0],.other⟩
 .nil))) 75 ⟨1,8,[.nilFunc],[0],.other⟩
 (.node (.node (.node .nil 76 ⟨1,24,[.slice none 0 0],[1],.sl 9⟩
 .nil) 77 ⟨1,8,[.nilFunc],[0],.other⟩
 (.node .nil 78 ⟨1,24,[.slice none 0 0],[1],.sl 3⟩
 .nil)) 79 ⟨6,88,[.int .i64 0,.int .i64 0,.string ⟨#[]⟩,.slice none 0 0,.slice none 0 0,.int .i64 0],[0,0,0,2,1,0],.struct [(0,39),(3,40),(4,78),(5,3)]⟩
 (.node (.node .nil 80 ⟨6,88,[.int .i64 0,.int .i64 0,.string ⟨#[]⟩,.slice none 0 0,.slice none 0 0,.int .i64 0],[0,0,0,2,1,0],.struct [(0,39),(3,40),(4,78),(5,3)]⟩
 .nil) 81 ⟨10,128,[.int .i64 0,.int .i64 0,.int .i64 0,.string ⟨#[]⟩,.slice none 0 0,.slice none 0 0,.int .i64 0,.string ⟨#[]⟩,.int .i64 0,.int .i64 0],[0,0,0,0,2,1,0,0,0,0],.struct [(0,3),(1,80),(7,9),(8,3),(9,3)]⟩
 (.node .nil 82 ⟨10,128,[.int .i64 0,.int .i64 0,.int .i64 0,.string ⟨#[]⟩,.slice none 0 0,.slice none 0 0,.int .i64 0,.string ⟨#[]⟩,.int .i64 0,.int .i64 0],[0,0,0,0,2,1,0,0,0,0],.struct [(0,3),(1,80),(7,9),(8,3),(9,3)]⟩
 .nil)))))) 83 ⟨2,24,[.string ⟨#[]⟩,.int .i64 0],[0,0],.struct [(0,9),(1,3)]⟩
 (.node (.node (.node (.node (.node (.node (.node .nil 84 ⟨2,24,[.string ⟨#[]⟩,.int .i64 0],[0,0],.struct [(0,9),(1,3)]⟩
 .nil) 85 ⟨1,8,[.nilFunc],[0],.other⟩
 .nil) 86 ⟨1,8,[.nilFunc],[0],.other⟩
 (.node .nil 87 ⟨1,8,[.nilFunc],[0],.other⟩
 .nil)) 88 ⟨1,8,[.nilFunc],[0],.other⟩
 (.node (.node .nil 89 ⟨1,8,[.nilFunc],[0],.other⟩
 .nil) 90 ⟨1,8,[.nilFunc],[0],.other⟩
 (.node .nil 91 ⟨1,8,[.nilFunc],[0],.other⟩
 .nil))) 92 ⟨1,8,[.nilFunc],[0],.other⟩
 (.node (.node (.node (.node .nil 93 ⟨1,8,[.nilFunc],[0],.other⟩
 .nil) 94 ⟨1,8,[.nilFunc],[0],.other⟩
 .nil) 95 ⟨1,8,[.nilFunc],[0],.other⟩
 (.node .nil 96 ⟨1,8,[.nilFunc],[0],.other⟩
 .nil)) 97 ⟨1,8,[.nilFunc],[0],.other⟩
 (.node (.node .nil 98 ⟨1,8,[.nilFunc],[0],.other⟩
 .nil) 99 ⟨1,8,[.nilFunc],[0],.other⟩
 (.node .nil 100 ⟨1,8,[.nilFunc],[0],.other⟩
 .nil)))) 102 ⟨1,8,[.nilFunc],[0],.other⟩
 (.node (.node (.node (.node (.node .nil 104 ⟨1,8,[.nilFunc],[0],.other⟩
 .nil) 105 ⟨1,8,[.nilFunc],[0],.other⟩
 .nil) 106 ⟨1,8,[.nilFunc],[0],.other⟩
 (.node .nil 107 ⟨1,8,[.nilFunc],[0],.other⟩
 .nil)) 108 ⟨1,8,[.nilFunc],[0],.other⟩
 (.node (.node .nil 109 ⟨1,8,[.nilFunc],[0],.other⟩
 .nil) 110 ⟨1,8,[.nilFunc],[0],.other⟩
 (.node .nil 111 ⟨1,8,[.nilFunc],[0],.other⟩
 .nil))) 112 ⟨1,8,[.nilFunc],[0],.other⟩
 (.node (.node (.node .nil 113 ⟨1,8,[.nilFunc],[0],.other⟩
 .nil) 114 ⟨1,24,[.slice none 0 0],[4],.sl 212⟩
 (.node .nil 115 ⟨2,32,[.int .i64 0,.slice none 0 0],[0,4],.struct [(0,3),(1,114)]⟩
 .nil)) 116 ⟨2,32,[.int .i64 0,.slice none 0 0],[0,4],.struct [(0,3),(1,114)]⟩
 (.node (.node .nil 117 ⟨1,8,[.nilFunc],[0],.other⟩
 .nil) 119 ⟨1,8,[.nilFunc],[0],.other⟩
 (.node .nil 120 ⟨1,8,[.nilFunc],[0],.other⟩
 .nil))))) 121 ⟨1,8,[.nilFunc],[0],.other⟩
 (.node (.node (.node (.node (.node (.node .nil 122 ⟨1,8,[.nilFunc],[0],.other⟩
 .nil) 123 ⟨1,8,[.nilFunc],[0],.other⟩
 .nil) 124 ⟨6,88,[.int .i64 0,.int .i64 0,.string ⟨#[]⟩,.slice none 0 0,.slice none 0 0,.int .i64 0],[0,0,0,2,1,0],.struct [(0,25),(3,26),(4,78),(5,3)]⟩
 (.node .nil 125 ⟨6,88,[.int .i64 0,.int .i64 0,.string ⟨#[]⟩,.slice none 0 0,.slice none 0 0,.int .i64 0],[0,0,0,2,1,0],.struct [(0,25),(3,26),(4,78),(5,3)]⟩
 .nil)) 126 ⟨10,128,[.int .i64 0,.int .i64 0,.int .i64 0,.string ⟨#[]⟩,.slice none 0 0,.slice none 0 0,.int .i64 0,.string ⟨#[]⟩,.int .i64 0,.int .i64 0],[0,0,0,0,2,1,0,0,0,0],.struct [(0,3),(1,125),(7,9),(8,3),(9,3)]⟩
 (.node (.node .nil 127 ⟨10,128,[.int .i64 0,.int .i64 0,.int .i64 0,.string ⟨#[]⟩,.slice none 0 0,.slice none 0 0,.int .i64 0,.string ⟨#[]⟩,.int .i64 0,.int .i64 0],[0,0,0,0,2,1,0,0,0,0],.struct [(0,3),(1,125),(7,9),(8,3),(9,3)]⟩
 .nil) 128 ⟨1,8,[.nilFunc],[0],.other⟩
 (.node .nil 129 ⟨2,24,[.string ⟨#[]⟩,.int .i64 0],[0,0],.struct [(0,9),(1,3)]⟩
 .nil))) 130 ⟨1,8,[.nilFunc],[0],.other⟩
 (.node (.node (.node (.node .nil 131 ⟨1,24,[.slice none 0 0],[4],.sl 244⟩
 .nil) 132 ⟨2,32,[.int .i64 0,.slice none 0 0],[0,4],.struct [(0,3),(1,131)]⟩
 .nil) 133 ⟨2,32,[.int .i64 0,.slice none 0 0],[0,4],.struct [(0,3),(1,131)]⟩
 (.node .nil 134 ⟨5,56,[.int .i64 0,.int .i64 0,.int .i64 0,.slice none 0 0,.int .i64 0],[0,0,0,4,0],.struct [(0,3),(1,3),(2,133),(4,3)]⟩
 .nil)) 135 ⟨5,56,[.int .i64 0,.int .i64 0,.int .i64 0,.slice none 0 0,.int .i64 0],[0,0,0,4,0],.struct [(0,3),(1,3),(2,133),(4,3)]⟩
 (.node (.node .nil 136 ⟨1,8,[.nilFunc],[0],.other⟩
 .nil) 137 ⟨4,40,[.int .i64 0,.int .i64 0,.int .i64 0,.string ⟨#[]⟩],[0,0,0,0],.struct [(0,3),(1,3),(2,3),(3,9)]⟩
 (.node .nil 138 ⟨4,40,[.int .i64 0,.int .i64 0,.int .i64 0,.string ⟨#[]⟩],[0,0,0,0],.struct [(0,3),(1,3),(2,3),(3,9)]⟩
 .nil)))) 139 ⟨1,8,[.nilFunc],[0],.other⟩
 (.node (.node (.node (.node (.node .nil 140 ⟨1,8,[.nilFunc],[0],.other⟩
 .nil) 141 ⟨1,8,[.nilFunc],[0],.other⟩
 .nil) 142 ⟨1,8,[.nilFunc],[0],.other⟩
 (.node .nil 143 ⟨1,8,[.nilFunc],[0],.other⟩
 .nil)) 144 ⟨1,8,[.nilFunc],[0],.other⟩
 (.node (.node .nil 145 ⟨1,8,[.nilFunc],[0],.other⟩
 .nil) 146 ⟨5,56,[.int .i64 0,.int .i64 0,.int .i64 0,.slice none 0 0,.int .i64 0],[0,0,0,4,0],.struct [(0,3),(1,3),(2,116),(4,3)]⟩
 (.node .nil 147 ⟨5,56,[.int .i64 0,.int .i64 0,.int .i64 0,.slice none 0 0,.int .i64 0],[0,0,0,4,0],.struct [(0,3),(1,3),(2,116),(4,3)]⟩
 .nil))) 148 ⟨1,8,[.nilFunc],[0],.other⟩
 (.node (.node (.node .nil 149 ⟨4,40,[.int .i64 0,.int .i64 0,.int .i64 0,.string ⟨#[]⟩],[0,0,0,0],.struct [(0,3),(1,3),(2,3),(3,9)]⟩
 .nil) 150 ⟨1,8,[.nilFunc],[0],.other⟩
 (.node .nil 151 ⟨1,8,[.nilFunc],[0],.other⟩
 .nil)) 152 ⟨1,8,[.nilFunc],[0],.other⟩
 (.node (.node .nil 153 ⟨1,8,[.nilFunc],[0],.other⟩
 .nil) 154 ⟨1,8,[.nilFunc],[0],.other⟩
 (.node .nil 155 ⟨1,8,[.nilFunc],[0],.other⟩
 .nil))))))) 156 ⟨1,8,[.nilFunc],[0],.other⟩
 (.node (.node (.node (.node (.node (.node (.node (.node .nil 157 ⟨1,8,[.nilFunc],[0],.other⟩
 .nil) 158 ⟨1,8,[.nilFunc],[0],.other⟩
 .nil) 159 ⟨1,8,[.nilFunc],[0],.other⟩
 (.node .nil 160 ⟨1,8,[.nilFunc],[0],.other⟩
 .nil)) 161 ⟨1,8,[.nilFunc],[0],.other⟩
 (.node (.node .nil 162 ⟨1,8,[.nilFunc],[0],.other⟩
 .nil) 163 ⟨1,8,[.nilFunc],[0],.other⟩
 (.node .nil 164 ⟨1,8,[.nilFunc],[0],.other⟩
 .nil))) 165 ⟨1,8,[.nilFunc],[0],.other⟩
 (.node (.node (.node (.node .nil 166 ⟨1,8,[.nilFunc],[0],.other⟩
 .nil) 167 ⟨1,8,[.nilFunc],[0],.other⟩
 .nil) 168 ⟨1,8,[.nilFunc],[0],.other⟩
 (.node .nil 169 ⟨1,8,[.nilFunc],[0],.other⟩
 .nil)) 170 ⟨1,8,[.nilFunc],[0],.other⟩
 (.node (.node .nil 171 ⟨1,8,[.nilFunc],[0],.other⟩
 .nil) 172 ⟨1,8,[.nilFunc],[0],.other⟩
 (.node .nil 173 ⟨1,8,[.nilFunc],[0],.other⟩
 .nil)))) 174 ⟨1,8,[.nilFunc],[0],.other⟩
 (.node (.node (.node (.node (.node .nil 175 ⟨1,8,[.nilFunc],[0],.other⟩
 .nil) 176 ⟨1,8,[.nilFunc],[0],.other⟩
 .nil) 177 ⟨1,8,[.nilFunc],[0],.other⟩
 (.node .nil 178 ⟨1,8,[.nilFunc],[0],.other⟩
 .nil)) 179 ⟨1,8,[.nilFunc],[0],.other⟩
 (.node (.node .nil 180 ⟨1,8,[.nilFunc],[0],.other⟩
 .nil) 181 ⟨1,8,[.nilFunc],[0],.other⟩
 (.node .nil 182 ⟨1,8,[.nilFunc],[0],.other⟩
 .nil))) 183 ⟨1,8,[.nilFunc],[0],.other⟩
 (.node (.node (.node (.node .nil 184 ⟨1,24,[.slice none 0 0],[4],.sl 190⟩
 .nil) 185 ⟨1,8,[.nilFunc],[0],.other⟩
 .nil) 186 ⟨1,8,[.nilFunc],[0],.other⟩
 (.node .nil 187 ⟨1,8,[.nilFunc],[0],.other⟩
 .nil)) 188 ⟨1,8,[.nilFunc],[0],.other⟩
 (.node (.node .nil 189 ⟨4,32,[.int .i64 0,.bool false,.int .i64 0,.int .i64 0],[0,0,0,0],.struct [(0,3),(1,4),(2,3),(3,3)]⟩
 .nil) 190 ⟨4,32,[.int .i64 0,.bool false,.int .i64 0,.int .i64 0],[0,0,0,0],.struct [(0,3),(1,4),(2,3),(3,3)]⟩
 (.node .nil 191 ⟨1,8,[.nilFunc],[0],.other⟩
 .nil))))) 192 ⟨1,8,[.nilFunc],[0],.other⟩
 (.node (.node (.node (.node (.node (.node .nil 193 ⟨1,8,[.nilFunc],[0],.other⟩
 .nil) 194 ⟨1,8,[.nilFunc],[0],.other⟩
 .nil) 195 ⟨1,8,[.nilFunc],[0],.other⟩
 (.node .nil 196 ⟨1,8,[.nilFunc],[0],.other⟩
 .nil)) 197 ⟨1,8,[.nilFunc],[0],.other⟩
 (.node (.node .nil 198 ⟨1,8,[.nilFunc],[0],.other⟩
 .nil) 199 ⟨1,8,[.nilFunc],[0],.other⟩
 (.node .nil 200 ⟨1,8,[.nilFunc],[0],.other⟩
 .nil))) 201 ⟨1,8,[.nilFunc],[0],.other⟩
 (.node (.node (.node (.node .nil 202 ⟨1,8,[.nilFunc],[0],.other⟩
 .nil) 203 ⟨1,8,[.nilFunc],[0],.other⟩
 .nil) 204 ⟨1,8,[.nilFunc],[0],.other⟩
 (.node .nil 205 ⟨1,8,[.nilFunc],[0],.other⟩
 .nil)) 206 ⟨1,8,[.nilFunc],[0],.other⟩
 (.node (.node .nil 207 ⟨1,8,[.nilFunc],[0],.other⟩
 .nil) 208 ⟨1,8,[.nilFunc],[0],.other⟩
 (.node .nil 209 ⟨1,8,[.nilFunc],[0],.other⟩
 .nil)))) 210 ⟨1,24,[.slice none 0 0],[1],.sl 5⟩
 (.node (.node (.node (.node (.node .nil 211 ⟨4,40,[.int .i64 0,.string ⟨#[]⟩,.int .i64 0,.int .i64 0],[0,0,0,0],.struct [(0,3),(1,9),(2,3),(3,3)]⟩
 .nil) 212 ⟨4,40,[.int .i64 0,.string ⟨#[]⟩,.int .i64 0,.int .i64 0],[0,0,0,0],.struct [(0,3),(1,9),(2,3),(3,3)]⟩
 .nil) 213 ⟨1,8,[.nilFunc],[0],.other⟩
 (.node .nil 214 ⟨1,8,[.nilFunc],[0],.other⟩
 .nil)) 215 ⟨1,8,[.nilFunc],[0],.other⟩
 (.node (.node .nil 216 ⟨1,8,[.nilFunc],[0],.other⟩
 .nil) 217 ⟨1,8,[.nilFunc],[0],.other⟩
 (.node .nil 218 ⟨1,8,[.nilFunc],[0],.other⟩
 .nil))) 219 ⟨1,8,[.nilFunc],[0],.other⟩
 (.node (.node (.node .nil 220 ⟨1,24,[.slice none 0 0],[1],.sl 78⟩
 .nil) 221 ⟨1,8,[.nilFunc],[0],.other⟩
 (.node .nil 222 ⟨1,8,[.nilFunc],[0],.other⟩
 .nil)) 223 ⟨1,8,[.nilFunc],[0],.other⟩
 (.node (.node .nil 224 ⟨1,8,[.nilFunc],[0],.other⟩
 .nil) 225 ⟨1,8,[.nilFunc],[0],.other⟩
 (.node .nil 226 ⟨1,8,[.nilFunc],[0],.other⟩
 .nil)))))) 227 ⟨1,8,[.nilFunc],[0],.other⟩
 (.node (.node (.node (.node (.node (.node (.node .nil 228 ⟨1,8,[.nilFunc],[0],.other⟩
 .nil) 229 ⟨1,8,[.nilFunc],[0],.other⟩
 .nil) 230 ⟨1,8,[.nilFunc],[0],.other⟩
 (.node .nil 231 ⟨1,8,[.nilFunc],[0],.other⟩
 .nil)) 232 ⟨1,8,[.nilFunc],[0],.other⟩
 (.node (.node .nil 233 ⟨1,8,[.nilFunc],[0],.other⟩
 .nil) 234 ⟨1,8,[.nilFunc],[0],.other⟩
 (.node .nil 235 ⟨1,8,[.nilFunc],[0],.other⟩
 .nil))) 236 ⟨1,8,[.nilFunc],[0],.other⟩
 (.node (.node (.node (.node .nil 237 ⟨1,8,[.nilFunc],[0],.other⟩
 .nil) 238 ⟨1,8,[.nilFunc],[0],.other⟩
 .nil) 239 ⟨1,8,[.nilFunc],[0],.other⟩
 (.node .nil 240 ⟨1,8,[.nilFunc],[0],.other⟩
 .nil)) 241 ⟨1,8,[.nilFunc],[0],.other⟩
 (.node (.node .nil 242 ⟨1,8,[.nilFunc],[0],.other⟩
 .nil) 243 ⟨1,8,[.nilFunc],[0],.other⟩
 (.node .nil 244 ⟨4,40,[.int .i64 0,.string ⟨#[]⟩,.int .i64 0,.int .i64 0],[0,0,0,0],.struct [(0,3),(1,9),(2,3),(3,3)]⟩
 .nil)))) 245 ⟨1,8,[.nilFunc],[0],.other⟩
 (.node (.node (.node (.node (.node .nil 246 ⟨1,8,[.nilFunc],[0],.other⟩
 .nil) 247 ⟨1,8,[.nilFunc],[0],.other⟩
 .nil) 248 ⟨1,8,[.nilFunc],[0],.other⟩
 (.node .nil 249 ⟨1,8,[.nilFunc],[0],.other⟩
 .nil)) 250 ⟨1,8,[.nilFunc],[0],.other⟩
 (.node (.node .nil 251 ⟨1,8,[.nilFunc],[0],.other⟩
 .nil) 252 ⟨1,8,[.nilFunc],[0],.other⟩
 (.node .nil 253 ⟨1,8,[.nilFunc],[0],.other⟩
 .nil))) 254 ⟨1,8,[.nilFunc],[0],.other⟩
 (.node (.node (.node .nil 255 ⟨1,8,[.nilFunc],[0],.other⟩
 .nil) 256 ⟨1,8,[.nilFunc],[0],.other⟩
 (.node .nil 257 ⟨1,8,[.nilFunc],[0],.other⟩
 .nil)) 258 ⟨1,8,[.nilFunc],[0],.other⟩
 (.node (.node .nil 259 ⟨1,8,[.int .u64 0],[0],.int .u64⟩
 .nil) 260 ⟨1,8,[.nilFunc],[0],.other⟩
 (.node .nil 261 ⟨1,8,[.nilFunc],[0],.other⟩
 .nil))))) 262 ⟨1,8,[.nilFunc],[0],.other⟩
 (.node (.node (.node (.node (.node (.node .nil 263 ⟨1,8,[.nilFunc],[0],.other⟩
 .nil) 264 ⟨1,8,[.nilFunc],[0],.other⟩
 .nil) 265 ⟨1,8,[.map none],[0],.map 3 3⟩
 (.node .nil 266 ⟨1,8,[.nilFunc],[0],.other⟩
 .nil)) 267 ⟨1,8,[.nilFunc],[0],.other⟩
 (.node (.node .nil 268 ⟨1,24,[.slice none 0 0],[1],.sl 4⟩
 .nil) 269 ⟨1,8,[.nilFunc],[0],.other⟩
 (.node .nil 270 ⟨1,8,[.nilFunc],[0],.other⟩
 .nil))) 271 ⟨1,8,[.nilFunc],[0],.other⟩
 (.node (.node (.node (.node .nil 272 ⟨1,8,[.nilFunc],[0],.other⟩
 .nil) 273 ⟨1,8,[.nilFunc],[0],.other⟩
 .nil) 274 ⟨1,8,[.int .i64 0],[0],.int .i64⟩
 (.node .nil 276 ⟨1,8,[.nilFunc],[0],.other⟩
 .nil)) 277 ⟨1,8,[.nilFunc],[0],.other⟩
 (.node (.node .nil 278 ⟨1,8,[.nilFunc],[0],.other⟩
 .nil) 279 ⟨1,8,[.nilFunc],[0],.other⟩
 (.node .nil 281 ⟨1,8,[.nilFunc],[0],.other⟩
 .nil)))) 282 ⟨1,8,[.nilFunc],[0],.other⟩
 (.node (.node (.node (.node (.node .nil 283 ⟨1,4,[.int .u32 0],[0],.int .u32⟩
 .nil) 284 ⟨1,8,[.nilFunc],[0],.other⟩
 .nil) 285 ⟨1,8,[.int .u64 0],[0],.int .u64⟩
 (.node .nil 286 ⟨1,8,[.int .u64 0],[0],.int .u64⟩
 .nil)) 287 ⟨1,8,[.nilFunc],[0],.other⟩
 (.node (.node .nil 288 ⟨1,8,[.nilFunc],[0],.other⟩
 .nil) 289 ⟨1,8,[.nilFunc],[0],.other⟩
 (.node .nil 291 ⟨1,8,[.nilFunc],[0],.other⟩
 .nil))) 294 ⟨1,8,[.nilFunc],[0],.other⟩
 (.node (.node (.node .nil 295 ⟨1,8,[.nilFunc],[0],.other⟩
 .nil) 301 ⟨1,8,[.nilFunc],[0],.other⟩
 (.node .nil 302 ⟨1,1,[.int .u8 0],[0],.int .u8⟩
 .nil)) 303 ⟨1,1,[.int .u8 0],[0],.int .u8⟩
 (.node (.node .nil 304 ⟨1,8,[.nilFunc],[0],.other⟩
 .nil) 306 ⟨1,4,[.int .i32 0],[0],.int .i32⟩
 (.node .nil 307 ⟨1,4,[.int .i32 0],[0],.int .i32⟩
 .nil))))))))

theorem Tryz.tok:TOk Tryz.prog Tryz.tab:=tok_of (by kernel_rfl)
theorem Tryz.mixed:Tryz.prog.follows .mixedOrders=true:=by kernel_rfl
end Go.Proofs
