/- SimfPlays: its loop: the frame, the code's parts, what holds at each round. -/
import Derived.Test.YtkbgedaogfcdnaaPlayA
namespace Go.Proofs.Ytkbgedaogfcdnaa
set_option linter.unusedSimpArgs false
set_option linter.unusedVariables false
open Go.RowKit
open Crc (Bytes)

theorem range_frame (t : Array Value) (N : Nat) (h : t.size = N) : t = ((List.range N).map fun k => t.getD k undef).toArray := by
  apply Array.ext
  · simp [h]
  · intro i h1 h2
    simp [Array.getD, h1]
set_option maxRecDepth 100000 in
theorem frame330 (t : Array Value) (h : t.size = 330) : t = #[t.getD 0 undef, t.getD 1 undef, t.getD 2 undef, t.getD 3 undef, t.getD 4 undef, t.getD 5 undef, t.getD 6 undef, t.getD 7 undef, t.getD 8 undef, t.getD 9 undef, t.getD 10 undef, t.getD 11 undef, t.getD 12 undef, t.getD 13 undef, t.getD 14 undef, t.getD 15 undef, t.getD 16 undef, t.getD 17 undef, t.getD 18 undef, t.getD 19 undef, t.getD 20 undef, t.getD 21 undef, t.getD 22 undef, t.getD 23 undef, t.getD 24 undef, t.getD 25 undef, t.getD 26 undef, t.getD 27 undef, t.getD 28 undef, t.getD 29 undef, t.getD 30 undef, t.getD 31 undef, t.getD 32 undef, t.getD 33 undef, t.getD 34 undef, t.getD 35 undef, t.getD 36 undef, t.getD 37 undef, t.getD 38 undef, t.getD 39 undef, t.getD 40 undef, t.getD 41 undef, t.getD 42 undef, t.getD 43 undef, t.getD 44 undef, t.getD 45 undef, t.getD 46 undef, t.getD 47 undef, t.getD 48 undef, t.getD 49 undef, t.getD 50 undef, t.getD 51 undef, t.getD 52 undef, t.getD 53 undef, t.getD 54 undef, t.getD 55 undef, t.getD 56 undef, t.getD 57 undef, t.getD 58 undef, t.getD 59 undef, t.getD 60 undef, t.getD 61 undef, t.getD 62 undef, t.getD 63 undef, t.getD 64 undef, t.getD 65 undef, t.getD 66 undef, t.getD 67 undef, t.getD 68 undef, t.getD 69 undef, t.getD 70 undef, t.getD 71 undef, t.getD 72 undef, t.getD 73 undef, t.getD 74 undef, t.getD 75 undef, t.getD 76 undef, t.getD 77 undef, t.getD 78 undef, t.getD 79 undef, t.getD 80 undef, t.getD 81 undef, t.getD 82 undef, t.getD 83 undef, t.getD 84 undef, t.getD 85 undef, t.getD 86 undef, t.getD 87 undef, t.getD 88 undef, t.getD 89 undef, t.getD 90 undef, t.getD 91 undef, t.getD 92 undef, t.getD 93 undef, t.getD 94 undef, t.getD 95 undef, t.getD 96 undef, t.getD 97 undef, t.getD 98 undef, t.getD 99 undef, t.getD 100 undef, t.getD 101 undef, t.getD 102 undef, t.getD 103 undef, t.getD 104 undef, t.getD 105 undef, t.getD 106 undef, t.getD 107 undef, t.getD 108 undef, t.getD 109 undef, t.getD 110 undef, t.getD 111 undef, t.getD 112 undef, t.getD 113 undef, t.getD 114 undef, t.getD 115 undef, t.getD 116 undef, t.getD 117 undef, t.getD 118 undef, t.getD 119 undef, t.getD 120 undef, t.getD 121 undef, t.getD 122 undef, t.getD 123 undef, t.getD 124 undef, t.getD 125 undef, t.getD 126 undef, t.getD 127 undef, t.getD 128 undef, t.getD 129 undef, t.getD 130 undef, t.getD 131 undef, t.getD 132 undef, t.getD 133 undef, t.getD 134 undef, t.getD 135 undef, t.getD 136 undef, t.getD 137 undef, t.getD 138 undef, t.getD 139 undef, t.getD 140 undef, t.getD 141 undef, t.getD 142 undef, t.getD 143 undef, t.getD 144 undef, t.getD 145 undef, t.getD 146 undef, t.getD 147 undef, t.getD 148 undef, t.getD 149 undef, t.getD 150 undef, t.getD 151 undef, t.getD 152 undef, t.getD 153 undef, t.getD 154 undef, t.getD 155 undef, t.getD 156 undef, t.getD 157 undef, t.getD 158 undef, t.getD 159 undef, t.getD 160 undef, t.getD 161 undef, t.getD 162 undef, t.getD 163 undef, t.getD 164 undef, t.getD 165 undef, t.getD 166 undef, t.getD 167 undef, t.getD 168 undef, t.getD 169 undef, t.getD 170 undef, t.getD 171 undef, t.getD 172 undef, t.getD 173 undef, t.getD 174 undef, t.getD 175 undef, t.getD 176 undef, t.getD 177 undef, t.getD 178 undef, t.getD 179 undef, t.getD 180 undef, t.getD 181 undef, t.getD 182 undef, t.getD 183 undef, t.getD 184 undef, t.getD 185 undef, t.getD 186 undef, t.getD 187 undef, t.getD 188 undef, t.getD 189 undef, t.getD 190 undef, t.getD 191 undef, t.getD 192 undef, t.getD 193 undef, t.getD 194 undef, t.getD 195 undef, t.getD 196 undef, t.getD 197 undef, t.getD 198 undef, t.getD 199 undef, t.getD 200 undef, t.getD 201 undef, t.getD 202 undef, t.getD 203 undef, t.getD 204 undef, t.getD 205 undef, t.getD 206 undef, t.getD 207 undef, t.getD 208 undef, t.getD 209 undef, t.getD 210 undef, t.getD 211 undef, t.getD 212 undef, t.getD 213 undef, t.getD 214 undef, t.getD 215 undef, t.getD 216 undef, t.getD 217 undef, t.getD 218 undef, t.getD 219 undef, t.getD 220 undef, t.getD 221 undef, t.getD 222 undef, t.getD 223 undef, t.getD 224 undef, t.getD 225 undef, t.getD 226 undef, t.getD 227 undef, t.getD 228 undef, t.getD 229 undef, t.getD 230 undef, t.getD 231 undef, t.getD 232 undef, t.getD 233 undef, t.getD 234 undef, t.getD 235 undef, t.getD 236 undef, t.getD 237 undef, t.getD 238 undef, t.getD 239 undef, t.getD 240 undef, t.getD 241 undef, t.getD 242 undef, t.getD 243 undef, t.getD 244 undef, t.getD 245 undef, t.getD 246 undef, t.getD 247 undef, t.getD 248 undef, t.getD 249 undef, t.getD 250 undef, t.getD 251 undef, t.getD 252 undef, t.getD 253 undef, t.getD 254 undef, t.getD 255 undef, t.getD 256 undef, t.getD 257 undef, t.getD 258 undef, t.getD 259 undef, t.getD 260 undef, t.getD 261 undef, t.getD 262 undef, t.getD 263 undef, t.getD 264 undef, t.getD 265 undef, t.getD 266 undef, t.getD 267 undef, t.getD 268 undef, t.getD 269 undef, t.getD 270 undef, t.getD 271 undef, t.getD 272 undef, t.getD 273 undef, t.getD 274 undef, t.getD 275 undef, t.getD 276 undef, t.getD 277 undef, t.getD 278 undef, t.getD 279 undef, t.getD 280 undef, t.getD 281 undef, t.getD 282 undef, t.getD 283 undef, t.getD 284 undef, t.getD 285 undef, t.getD 286 undef, t.getD 287 undef, t.getD 288 undef, t.getD 289 undef, t.getD 290 undef, t.getD 291 undef, t.getD 292 undef, t.getD 293 undef, t.getD 294 undef, t.getD 295 undef, t.getD 296 undef, t.getD 297 undef, t.getD 298 undef, t.getD 299 undef, t.getD 300 undef, t.getD 301 undef, t.getD 302 undef, t.getD 303 undef, t.getD 304 undef, t.getD 305 undef, t.getD 306 undef, t.getD 307 undef, t.getD 308 undef, t.getD 309 undef, t.getD 310 undef, t.getD 311 undef, t.getD 312 undef, t.getD 313 undef, t.getD 314 undef, t.getD 315 undef, t.getD 316 undef, t.getD 317 undef, t.getD 318 undef, t.getD 319 undef, t.getD 320 undef, t.getD 321 undef, t.getD 322 undef, t.getD 323 undef, t.getD 324 undef, t.getD 325 undef, t.getD 326 undef, t.getD 327 undef, t.getD 328 undef, t.getD 329 undef] := (range_frame t 330 h).trans (by kernel_rfl)
set_option maxRecDepth 100000 in
theorem frameP (t : Array Value) (h : t.size = 330) (x1 x2 x7 x8 x9 : Value) (h1 : t.getD 1 undef = x1) (h2 : t.getD 2 undef = x2) (h7 : t.getD 7 undef = x7) (h8 : t.getD 8 undef = x8) (h9 : t.getD 9 undef = x9) :
    ∃ v : Nat → Value, t = #[v 0, x1, x2, v 3, v 4, v 5, v 6, x7, x8, x9, v 10, v 11, v 12, v 13, v 14, v 15, v 16, v 17, v 18, v 19, v 20, v 21, v 22, v 23, v 24, v 25, v 26, v 27, v 28, v 29, v 30, v 31, v 32, v 33, v 34, v 35, v 36, v 37, v 38, v 39, v 40, v 41, v 42, v 43, v 44, v 45, v 46, v 47, v 48, v 49, v 50, v 51, v 52, v 53, v 54, v 55, v 56, v 57, v 58, v 59, v 60, v 61, v 62, v 63, v 64, v 65, v 66, v 67, v 68, v 69, v 70, v 71, v 72, v 73, v 74, v 75, v 76, v 77, v 78, v 79, v 80, v 81, v 82, v 83, v 84, v 85, v 86, v 87, v 88, v 89, v 90, v 91, v 92, v 93, v 94, v 95, v 96, v 97, v 98, v 99, v 100, v 101, v 102, v 103, v 104, v 105, v 106, v 107, v 108, v 109, v 110, v 111, v 112, v 113, v 114, v 115, v 116, v 117, v 118, v 119, v 120, v 121, v 122, v 123, v 124, v 125, v 126, v 127, v 128, v 129, v 130, v 131, v 132, v 133, v 134, v 135, v 136, v 137, v 138, v 139, v 140, v 141, v 142, v 143, v 144, v 145, v 146, v 147, v 148, v 149, v 150, v 151, v 152, v 153, v 154, v 155, v 156, v 157, v 158, v 159, v 160, v 161, v 162, v 163, v 164, v 165, v 166, v 167, v 168, v 169, v 170, v 171, v 172, v 173, v 174, v 175, v 176, v 177, v 178, v 179, v 180, v 181, v 182, v 183, v 184, v 185, v 186, v 187, v 188, v 189, v 190, v 191, v 192, v 193, v 194, v 195, v 196, v 197, v 198, v 199, v 200, v 201, v 202, v 203, v 204, v 205, v 206, v 207, v 208, v 209, v 210, v 211, v 212, v 213, v 214, v 215, v 216, v 217, v 218, v 219, v 220, v 221, v 222, v 223, v 224, v 225, v 226, v 227, v 228, v 229, v 230, v 231, v 232, v 233, v 234, v 235, v 236, v 237, v 238, v 239, v 240, v 241, v 242, v 243, v 244, v 245, v 246, v 247, v 248, v 249, v 250, v 251, v 252, v 253, v 254, v 255, v 256, v 257, v 258, v 259, v 260, v 261, v 262, v 263, v 264, v 265, v 266, v 267, v 268, v 269, v 270, v 271, v 272, v 273, v 274, v 275, v 276, v 277, v 278, v 279, v 280, v 281, v 282, v 283, v 284, v 285, v 286, v 287, v 288, v 289, v 290, v 291, v 292, v 293, v 294, v 295, v 296, v 297, v 298, v 299, v 300, v 301, v 302, v 303, v 304, v 305, v 306, v 307, v 308, v 309, v 310, v 311, v 312, v 313, v 314, v 315, v 316, v 317, v 318, v 319, v 320, v 321, v 322, v 323, v 324, v 325, v 326, v 327, v 328, v 329] := by
  refine ⟨fun k => t.getD k undef, ?_⟩
  subst h1 h2 h7 h8 h9
  exact frame330 t h
set_option maxRecDepth 100000 in
theorem frameR (t : Array Value) (h : t.size = 330) (x1 x2 x7 x8 x9 x10 x11 x12 x13 : Value) (h1 : t.getD 1 undef = x1) (h2 : t.getD 2 undef = x2) (h7 : t.getD 7 undef = x7) (h8 : t.getD 8 undef = x8) (h9 : t.getD 9 undef = x9) (h10 : t.getD 10 undef = x10) (h11 : t.getD 11 undef = x11) (h12 : t.getD 12 undef = x12) (h13 : t.getD 13 undef = x13) :
    ∃ v : Nat → Value, t = #[v 0, x1, x2, v 3, v 4, v 5, v 6, x7, x8, x9, x10, x11, x12, x13, v 14, v 15, v 16, v 17, v 18, v 19, v 20, v 21, v 22, v 23, v 24, v 25, v 26, v 27, v 28, v 29, v 30, v 31, v 32, v 33, v 34, v 35, v 36, v 37, v 38, v 39, v 40, v 41, v 42, v 43, v 44, v 45, v 46, v 47, v 48, v 49, v 50, v 51, v 52, v 53, v 54, v 55, v 56, v 57, v 58, v 59, v 60, v 61, v 62, v 63, v 64, v 65, v 66, v 67, v 68, v 69, v 70, v 71, v 72, v 73, v 74, v 75, v 76, v 77, v 78, v 79, v 80, v 81, v 82, v 83, v 84, v 85, v 86, v 87, v 88, v 89, v 90, v 91, v 92, v 93, v 94, v 95, v 96, v 97, v 98, v 99, v 100, v 101, v 102, v 103, v 104, v 105, v 106, v 107, v 108, v 109, v 110, v 111, v 112, v 113, v 114, v 115, v 116, v 117, v 118, v 119, v 120, v 121, v 122, v 123, v 124, v 125, v 126, v 127, v 128, v 129, v 130, v 131, v 132, v 133, v 134, v 135, v 136, v 137, v 138, v 139, v 140, v 141, v 142, v 143, v 144, v 145, v 146, v 147, v 148, v 149, v 150, v 151, v 152, v 153, v 154, v 155, v 156, v 157, v 158, v 159, v 160, v 161, v 162, v 163, v 164, v 165, v 166, v 167, v 168, v 169, v 170, v 171, v 172, v 173, v 174, v 175, v 176, v 177, v 178, v 179, v 180, v 181, v 182, v 183, v 184, v 185, v 186, v 187, v 188, v 189, v 190, v 191, v 192, v 193, v 194, v 195, v 196, v 197, v 198, v 199, v 200, v 201, v 202, v 203, v 204, v 205, v 206, v 207, v 208, v 209, v 210, v 211, v 212, v 213, v 214, v 215, v 216, v 217, v 218, v 219, v 220, v 221, v 222, v 223, v 224, v 225, v 226, v 227, v 228, v 229, v 230, v 231, v 232, v 233, v 234, v 235, v 236, v 237, v 238, v 239, v 240, v 241, v 242, v 243, v 244, v 245, v 246, v 247, v 248, v 249, v 250, v 251, v 252, v 253, v 254, v 255, v 256, v 257, v 258, v 259, v 260, v 261, v 262, v 263, v 264, v 265, v 266, v 267, v 268, v 269, v 270, v 271, v 272, v 273, v 274, v 275, v 276, v 277, v 278, v 279, v 280, v 281, v 282, v 283, v 284, v 285, v 286, v 287, v 288, v 289, v 290, v 291, v 292, v 293, v 294, v 295, v 296, v 297, v 298, v 299, v 300, v 301, v 302, v 303, v 304, v 305, v 306, v 307, v 308, v 309, v 310, v 311, v 312, v 313, v 314, v 315, v 316, v 317, v 318, v 319, v 320, v 321, v 322, v 323, v 324, v 325, v 326, v 327, v 328, v 329] := by
  refine ⟨fun k => t.getD k undef, ?_⟩
  subst h1 h2 h7 h8 h9 h10 h11 h12 h13
  exact frame330 t h
set_option maxRecDepth 100000 in
theorem frameG (t : Array Value) (h : t.size = 330) (x1 x2 x7 x8 x9 x10 x11 x12 x13 x14 : Value) (h1 : t.getD 1 undef = x1) (h2 : t.getD 2 undef = x2) (h7 : t.getD 7 undef = x7) (h8 : t.getD 8 undef = x8) (h9 : t.getD 9 undef = x9) (h10 : t.getD 10 undef = x10) (h11 : t.getD 11 undef = x11) (h12 : t.getD 12 undef = x12) (h13 : t.getD 13 undef = x13) (h14 : t.getD 14 undef = x14) :
    ∃ v : Nat → Value, t = #[v 0, x1, x2, v 3, v 4, v 5, v 6, x7, x8, x9, x10, x11, x12, x13, x14, v 15, v 16, v 17, v 18, v 19, v 20, v 21, v 22, v 23, v 24, v 25, v 26, v 27, v 28, v 29, v 30, v 31, v 32, v 33, v 34, v 35, v 36, v 37, v 38, v 39, v 40, v 41, v 42, v 43, v 44, v 45, v 46, v 47, v 48, v 49, v 50, v 51, v 52, v 53, v 54, v 55, v 56, v 57, v 58, v 59, v 60, v 61, v 62, v 63, v 64, v 65, v 66, v 67, v 68, v 69, v 70, v 71, v 72, v 73, v 74, v 75, v 76, v 77, v 78, v 79, v 80, v 81, v 82, v 83, v 84, v 85, v 86, v 87, v 88, v 89, v 90, v 91, v 92, v 93, v 94, v 95, v 96, v 97, v 98, v 99, v 100, v 101, v 102, v 103, v 104, v 105, v 106, v 107, v 108, v 109, v 110, v 111, v 112, v 113, v 114, v 115, v 116, v 117, v 118, v 119, v 120, v 121, v 122, v 123, v 124, v 125, v 126, v 127, v 128, v 129, v 130, v 131, v 132, v 133, v 134, v 135, v 136, v 137, v 138, v 139, v 140, v 141, v 142, v 143, v 144, v 145, v 146, v 147, v 148, v 149, v 150, v 151, v 152, v 153, v 154, v 155, v 156, v 157, v 158, v 159, v 160, v 161, v 162, v 163, v 164, v 165, v 166, v 167, v 168, v 169, v 170, v 171, v 172, v 173, v 174, v 175, v 176, v 177, v 178, v 179, v 180, v 181, v 182, v 183, v 184, v 185, v 186, v 187, v 188, v 189, v 190, v 191, v 192, v 193, v 194, v 195, v 196, v 197, v 198, v 199, v 200, v 201, v 202, v 203, v 204, v 205, v 206, v 207, v 208, v 209, v 210, v 211, v 212, v 213, v 214, v 215, v 216, v 217, v 218, v 219, v 220, v 221, v 222, v 223, v 224, v 225, v 226, v 227, v 228, v 229, v 230, v 231, v 232, v 233, v 234, v 235, v 236, v 237, v 238, v 239, v 240, v 241, v 242, v 243, v 244, v 245, v 246, v 247, v 248, v 249, v 250, v 251, v 252, v 253, v 254, v 255, v 256, v 257, v 258, v 259, v 260, v 261, v 262, v 263, v 264, v 265, v 266, v 267, v 268, v 269, v 270, v 271, v 272, v 273, v 274, v 275, v 276, v 277, v 278, v 279, v 280, v 281, v 282, v 283, v 284, v 285, v 286, v 287, v 288, v 289, v 290, v 291, v 292, v 293, v 294, v 295, v 296, v 297, v 298, v 299, v 300, v 301, v 302, v 303, v 304, v 305, v 306, v 307, v 308, v 309, v 310, v 311, v 312, v 313, v 314, v 315, v 316, v 317, v 318, v 319, v 320, v 321, v 322, v 323, v 324, v 325, v 326, v 327, v 328, v 329] := by
  refine ⟨fun k => t.getD k undef, ?_⟩
  subst h1 h2 h7 h8 h9 h10 h11 h12 h13 h14
  exact frame330 t h
/-- A function's loops, one behind the other. -/
def loopsOf : Code → List Code
  | .loop c => [c]
  | .seq a b => loopsOf a ++ loopsOf b
  | .block _ c => loopsOf c
  | .scope c => loopsOf c
  | .cond _ a b => loopsOf a ++ loopsOf b
  | _ => []
/-- What stands behind the first loop of a code. -/
def restIn : Code → Option Code
  | .seq a b => match loopsOf a with
    | [] => restIn b
    | _ => match restIn a with
      | some r => some r
      | none => some b
  | .block _ c => restIn c
  | _ => none
def sndOf : Code → Code
  | .seq _ b => b
  | _ => .skip
/-- The loop's body; what stands behind the guards' loop; the tail behind the switch. -/
noncomputable def playBody : Code := ((Try.f3.body.map loopsOf).getD []).getD 0 .skip
noncomputable def playRest : Code := (restIn playBody).getD .skip
noncomputable def playTail : Code := sndOf playRest
structure PlayC where
  w : World
  fb : Nat
  mb : Nat
  qb : Nat
  A : Option Addr
  n : Nat
  cp : Nat
  RA : Option Addr
  rn : Nat
  rc : Nat
/-- Which slots stand. -/
structure PlayS (c : PlayC) (t : Array Value) : Prop where
  sz : t.size = 330
  s1 : t.getD 1 undef = .slice c.A c.n c.cp
  s2 : t.getD 2 undef = .slice c.RA c.rn c.rc
  s7 : t.getD 7 undef = .pointer (some ⟨c.fb, 0, none⟩)
  s8 : t.getD 8 undef = .pointer (some ⟨c.qb, 0, none⟩)
structure PlayL (c : PlayC) (a : Act) (W : World) : Prop where
  df : a.defers = []
  sl : PlayS c a.tmps
  ex : ∃ (i k : Nat) (S : Fs), a.tmps.getD 9 undef = .int .i64 i ∧ i ≤ 120 ∧ k ≤ i ∧ Both c.w W c.fb c.mb c.qb S k
def playMu (a : Act) (_ : World) : Nat := 121 - (intOf (a.tmps.getD 9 undef)).toNat
/-- What a round is to come to. -/
def PlayQ (c : PlayC) (t : Array Value) (wr : World) (Q0 : Exit → Act → World → Prop) : Exit → Act → World → Prop :=
  Exit.then (fun a' w'' => PlayL c a' w'' ∧ playMu a' w'' < playMu ⟨t, []⟩ wr) Q0
/-- What stands at the tail's end. -/
structure PlayE (c : PlayC) (i : Nat) (a : Act) (W : World) : Prop where
  df : a.defers = []
  sl : PlayS c a.tmps
  s9 : a.tmps.getD 9 undef = .int .i64 i
  ex : ∃ (k : Nat) (S : Fs), k ≤ i + 1 ∧ Both c.w W c.fb c.mb c.qb S k
section
variable {w : World} {base qb k : Nat} {S : Fs}
theorem qstamp_at (h : QAt w base qb S k) (hk : k ≤ 50000) (s : ByteArray) : Calls Try.prog 8 #[.pointer (some ⟨qb, 0, none⟩), .string s] w fun e w' => e = .returned (.int .i64 (S.st s)) ∧ w = w' := by
  obtain ⟨A, n, c, xs, ho⟩ := h.op hk
  exact qstamp_any s ho.qs ho.qb_
theorem qused_at (h : QAt w base qb S k) (hk : k ≤ 50000) (hu : S.used ≤ 70368744177664) : Calls Try.prog 27 #[.pointer (some ⟨qb, 0, none⟩)] w fun e w' => e = .returned (.int .i64 S.used) ∧ w = w' := by
  obtain ⟨A, n, c, xs, ho⟩ := h.op hk
  rw [ho.qs.used] at hu ⊢
  exact qused_any ho.qb_ hu
/-- Both lists, and that they are the same. -/
theorem lists_any {w0 : World} {fb mb kf : Nat} (h : FsH w0 w fb mb S kf) (dir : ByteArray) (hs : dir.size ≤ 1000) (hd : dir ∈ tmpN :: nm12) {ks : List (List UInt8)} (hk : Ks S ks) {A B : Option Addr} {n m c d : Nat} {w1 w2 : World} {base1 base2 : Nat} {xs : List Qe} (hS : QS S xs) (hn : ∀ x ∈ xs, x.nm ∈ okN) (hl : xs.length ≤ 100000)
    (h1 : Own w2 base1 9 1 A n c ((ks.filter (inB dir)).map encStr)) (e1 : n = (ks.filter (inB dir)).length) (h2 : Own w2 base2 9 1 B m d (((xs.map Qe.key).filter (inQ dir.data.toList)).map encStr)) (e2 : m = ((xs.map Qe.key).filter (inQ dir.data.toList)).length) :
    Calls Try.prog 28 #[.slice A n c, .slice B m d] w2 fun e w' => e = .returned (.bool true) ∧ Below w2.heap.size w2 w' := by
  have he := lists_same hS hn hk hd
  have hb : ((xs.map Qe.key).filter (inQ dir.data.toList)).length ≤ 100000 := Nat.le_trans (List.length_filter_le _ _) (by rw [List.length_map]; exact hl)
  refine (sametexts_any A B n m c d _ _ ⟨h1.rd, by rw [e1, he]; omega⟩ ⟨h2.rd, by omega⟩).mono ?_
  rintro e w' ⟨rfl, hb⟩
  exact ⟨by rw [decide_eq_true he], hb⟩
end
end Go.Proofs.Ytkbgedaogfcdnaa
