/-
  Fixed-point intervals: what each function gives, as a plain law.
-/
import Derived.Test.YtmididlfnajhiaaGreatDoorEv
import Derived.Test.YtmididlfnajhiaaGreatDoorT22
import Derived.KernelRfl
import Derived.IntWalk
namespace Go.Proofs.YtmididlfnajhiaaGreatDoor
open Ev
def Cs : List FuncId := [2, 3, 4, 5, 6, 7, 8, 9, 10, 11, 12, 13, 14, 15, 16, 17, 18, 19, 20, 21, 22, 23, 24, 25, 26, 27, 28, 29, 30, 31, 32, 33, 34, 35, 36, 37, 38, 39, 40, 41, 42, 43, 44, 45, 46, 47, 48, 49, 50, 51, 52, 53, 54, 55, 56, 57, 58, 59, 60, 61, 62, 63, 64, 65, 66, 67, 68, 69, 70, 71, 72, 73, 74, 75, 76, 77, 78, 79, 80, 81, 82, 83, 84, 85, 86, 87, 88, 89, 90, 91, 92, 93, 94, 95, 96, 97, 98, 99, 100, 101, 102, 103, 104, 105, 106, 107, 108, 109, 110, 111, 112, 113, 114, 115, 116, 117, 118, 119, 120, 121, 122, 123, 124, 125, 126, 127, 128, 129, 130, 131, 132, 133, 134, 135, 136, 137, 138, 139, 140, 141, 142, 143, 144, 145, 146, 147, 148, 149, 150, 151, 152, 153, 154, 155, 156, 157, 158, 159, 160, 161, 162, 163, 164, 165, 166, 167, 168, 169, 170, 171, 172, 173, 174, 175, 176, 177, 178, 179, 180, 181, 182, 183, 184, 185, 186, 187, 188, 189, 190, 191, 192, 193, 194, 195, 196, 197, 198, 199, 200, 201, 202, 203, 204, 205, 206, 207, 208, 209, 210, 211, 212, 213, 214, 215, 216, 217, 218, 219, 220, 221, 222, 223, 224, 225, 226, 227, 228, 229, 230, 231, 232, 233, 234, 235, 236, 237, 238, 239, 240, 241, 243, 244, 245, 246, 247, 248, 249, 250, 251, 252, 253, 254, 255, 256, 257, 258, 259, 260, 261, 262, 263, 264, 265, 266, 267, 268, 269, 270, 271, 273, 274, 275, 276, 277, 278, 279, 280, 302]
set_option maxRecDepth 100000 in
theorem Cs_ok : ∀ g ∈ Cs, Callable Tryz.prog g := by
  intro g hg
  simp only [Cs, List.mem_cons, List.not_mem_nil, or_false] at hg
  rcases hg with rfl | rfl | rfl | rfl | rfl | rfl | rfl | rfl | rfl | rfl | rfl | rfl | rfl | rfl | rfl | rfl | rfl | rfl | rfl | rfl | rfl | rfl | rfl | rfl | rfl | rfl | rfl | rfl | rfl | rfl | rfl | rfl | rfl | rfl | rfl | rfl | rfl | rfl | rfl | rfl | rfl | rfl | rfl | rfl | rfl | rfl | rfl | rfl | rfl | rfl | rfl | rfl | rfl | rfl | rfl | rfl | rfl | rfl | rfl | rfl | rfl | rfl | rfl | rfl | rfl | rfl | rfl | rfl | rfl | rfl | rfl | rfl | rfl | rfl | rfl | rfl | rfl | rfl | rfl | rfl | rfl | rfl | rfl | rfl | rfl | rfl | rfl | rfl | rfl | rfl | rfl | rfl | rfl | rfl | rfl | rfl | rfl | rfl | rfl | rfl | rfl | rfl | rfl | rfl | rfl | rfl | rfl | rfl | rfl | rfl | rfl | rfl | rfl | rfl | rfl | rfl | rfl | rfl | rfl | rfl | rfl | rfl | rfl | rfl | rfl | rfl | rfl | rfl | rfl | rfl | rfl | rfl | rfl | rfl | rfl | rfl | rfl | rfl | rfl | rfl | rfl | rfl | rfl | rfl | rfl | rfl | rfl | rfl | rfl | rfl | rfl | rfl | rfl | rfl | rfl | rfl | rfl | rfl | rfl | rfl | rfl | rfl | rfl | rfl | rfl | rfl | rfl | rfl | rfl | rfl | rfl | rfl | rfl | rfl | rfl | rfl | rfl | rfl | rfl | rfl | rfl | rfl | rfl | rfl | rfl | rfl | rfl | rfl | rfl | rfl | rfl | rfl | rfl | rfl | rfl | rfl | rfl | rfl | rfl | rfl | rfl | rfl | rfl | rfl | rfl | rfl | rfl | rfl | rfl | rfl | rfl | rfl | rfl | rfl | rfl | rfl | rfl | rfl | rfl | rfl | rfl | rfl | rfl | rfl | rfl | rfl | rfl | rfl | rfl | rfl | rfl | rfl | rfl | rfl | rfl | rfl | rfl | rfl | rfl | rfl | rfl | rfl | rfl | rfl | rfl | rfl | rfl | rfl | rfl | rfl | rfl | rfl | rfl | rfl | rfl | rfl | rfl | rfl | rfl | rfl | rfl | rfl | rfl | rfl | rfl | rfl | rfl | rfl | rfl | rfl | rfl | rfl | rfl | rfl | rfl | rfl | rfl | rfl
  · exact callable_of Tryz.func2 (by kernel_rfl) rfl
  · exact callable_of Tryz.func3 (by kernel_rfl) rfl
  · exact callable_of Tryz.func4 (by kernel_rfl) rfl
  · exact callable_of Tryz.func5 (by kernel_rfl) rfl
  · exact callable_of Tryz.func6 (by kernel_rfl) rfl
  · exact callable_of Tryz.func7 (by kernel_rfl) rfl
  · exact callable_of Tryz.func8 (by kernel_rfl) rfl
  · exact callable_of Tryz.func9 (by kernel_rfl) rfl
  · exact callable_of Tryz.func10 (by kernel_rfl) rfl
  · exact callable_of Tryz.func11 (by kernel_rfl) rfl
  · exact callable_of Tryz.func12 (by kernel_rfl) rfl
  · exact callable_of Tryz.func13 (by kernel_rfl) rfl
  · exact callable_of Tryz.func14 (by kernel_rfl) rfl
  · exact callable_of Tryz.func15 (by kernel_rfl) rfl
  · exact callable_of Tryz.func16 (by kernel_rfl) rfl
  · exact callable_of Tryz.func17 (by kernel_rfl) rfl
  · exact callable_of Tryz.func18 (by kernel_rfl) rfl
  · exact callable_of Tryz.func19 (by kernel_rfl) rfl
  · exact callable_of Tryz.func20 (by kernel_rfl) rfl
  · exact callable_of Tryz.func21 (by kernel_rfl) rfl
  · exact callable_of Tryz.func22 (by kernel_rfl) rfl
  · exact callable_of Tryz.func23 (by kernel_rfl) rfl
  · exact callable_of Tryz.func24 (by kernel_rfl) rfl
  · exact callable_of Tryz.func25 (by kernel_rfl) rfl
  · exact callable_of Tryz.func26 (by kernel_rfl) rfl
  · exact callable_of Tryz.func27 (by kernel_rfl) rfl
  · exact callable_of Tryz.func28 (by kernel_rfl) rfl
  · exact callable_of Tryz.func29 (by kernel_rfl) rfl
  · exact callable_of Tryz.func30 (by kernel_rfl) rfl
  · exact callable_of Tryz.func31 (by kernel_rfl) rfl
  · exact callable_of Tryz.func32 (by kernel_rfl) rfl
  · exact callable_of Tryz.func33 (by kernel_rfl) rfl
  · exact callable_of Tryz.func34 (by kernel_rfl) rfl
  · exact callable_of Tryz.func35 (by kernel_rfl) rfl
  · exact callable_of Tryz.func36 (by kernel_rfl) rfl
  · exact callable_of Tryz.func37 (by kernel_rfl) rfl
  · exact callable_of Tryz.func38 (by kernel_rfl) rfl
  · exact callable_of Tryz.func39 (by kernel_rfl) rfl
  · exact callable_of Tryz.func40 (by kernel_rfl) rfl
  · exact callable_of Tryz.func41 (by kernel_rfl) rfl
  · exact callable_of Tryz.func42 (by kernel_rfl) rfl
  · exact callable_of Tryz.func43 (by kernel_rfl) rfl
  · exact callable_of Tryz.func44 (by kernel_rfl) rfl
  · exact callable_of Tryz.func45 (by kernel_rfl) rfl
  · exact callable_of Tryz.func46 (by kernel_rfl) rfl
  · exact callable_of Tryz.func47 (by kernel_rfl) rfl
  · exact callable_of Tryz.func48 (by kernel_rfl) rfl
  · exact callable_of Tryz.func49 (by kernel_rfl) rfl
  · exact callable_of Tryz.func50 (by kernel_rfl) rfl
  · exact callable_of Tryz.func51 (by kernel_rfl) rfl
  · exact callable_of Tryz.func52 (by kernel_rfl) rfl
  · exact callable_of Tryz.func53 (by kernel_rfl) rfl
  · exact callable_of Tryz.func54 (by kernel_rfl) rfl
  · exact callable_of Tryz.func55 (by kernel_rfl) rfl
  · exact callable_of Tryz.func56 (by kernel_rfl) rfl
  · exact callable_of Tryz.func57 (by kernel_rfl) rfl
  · exact callable_of Tryz.func58 (by kernel_rfl) rfl
  · exact callable_of Tryz.func59 (by kernel_rfl) rfl
  · exact callable_of Tryz.func60 (by kernel_rfl) rfl
  · exact callable_of Tryz.func61 (by kernel_rfl) rfl
  · exact callable_of Tryz.func62 (by kernel_rfl) rfl
  · exact callable_of Tryz.func63 (by kernel_rfl) rfl
  · exact callable_of Tryz.func64 (by kernel_rfl) rfl
  · exact callable_of Tryz.func65 (by kernel_rfl) rfl
  · exact callable_of Tryz.func66 (by kernel_rfl) rfl
  · exact callable_of Tryz.func67 (by kernel_rfl) rfl
  · exact callable_of Tryz.func68 (by kernel_rfl) rfl
  · exact callable_of Tryz.func69 (by kernel_rfl) rfl
  · exact callable_of Tryz.func70 (by kernel_rfl) rfl
  · exact callable_of Tryz.func71 (by kernel_rfl) rfl
  · exact callable_of Tryz.func72 (by kernel_rfl) rfl
  · exact callable_of Tryz.func73 (by kernel_rfl) rfl
  · exact callable_of Tryz.func74 (by kernel_rfl) rfl
  · exact callable_of Tryz.func75 (by kernel_rfl) rfl
  · exact callable_of Tryz.func76 (by kernel_rfl) rfl
  · exact callable_of Tryz.func77 (by kernel_rfl) rfl
  · exact callable_of Tryz.func78 (by kernel_rfl) rfl
  · exact callable_of Tryz.func79 (by kernel_rfl) rfl
  · exact callable_of Tryz.func80 (by kernel_rfl) rfl
  · exact callable_of Tryz.func81 (by kernel_rfl) rfl
  · exact callable_of Tryz.func82 (by kernel_rfl) rfl
  · exact callable_of Tryz.func83 (by kernel_rfl) rfl
  · exact callable_of Tryz.func84 (by kernel_rfl) rfl
  · exact callable_of Tryz.func85 (by kernel_rfl) rfl
  · exact callable_of Tryz.func86 (by kernel_rfl) rfl
  · exact callable_of Tryz.func87 (by kernel_rfl) rfl
  · exact callable_of Tryz.func88 (by kernel_rfl) rfl
  · exact callable_of Tryz.func89 (by kernel_rfl) rfl
  · exact callable_of Tryz.func90 (by kernel_rfl) rfl
  · exact callable_of Tryz.func91 (by kernel_rfl) rfl
  · exact callable_of Tryz.func92 (by kernel_rfl) rfl
  · exact callable_of Tryz.func93 (by kernel_rfl) rfl
  · exact callable_of Tryz.func94 (by kernel_rfl) rfl
  · exact callable_of Tryz.func95 (by kernel_rfl) rfl
  · exact callable_of Tryz.func96 (by kernel_rfl) rfl
  · exact callable_of Tryz.func97 (by kernel_rfl) rfl
  · exact callable_of Tryz.func98 (by kernel_rfl) rfl
  · exact callable_of Tryz.func99 (by kernel_rfl) rfl
  · exact callable_of Tryz.func100 (by kernel_rfl) rfl
  · exact callable_of Tryz.func101 (by kernel_rfl) rfl
  · exact callable_of Tryz.func102 (by kernel_rfl) rfl
  · exact callable_of Tryz.func103 (by kernel_rfl) rfl
  · exact callable_of Tryz.func104 (by kernel_rfl) rfl
  · exact callable_of Tryz.func105 (by kernel_rfl) rfl
  · exact callable_of Tryz.func106 (by kernel_rfl) rfl
  · exact callable_of Tryz.func107 (by kernel_rfl) rfl
  · exact callable_of Tryz.func108 (by kernel_rfl) rfl
  · exact callable_of Tryz.func109 (by kernel_rfl) rfl
  · exact callable_of Tryz.func110 (by kernel_rfl) rfl
  · exact callable_of Tryz.func111 (by kernel_rfl) rfl
  · exact callable_of Tryz.func112 (by kernel_rfl) rfl
  · exact callable_of Tryz.func113 (by kernel_rfl) rfl
  · exact callable_of Tryz.func114 (by kernel_rfl) rfl
  · exact callable_of Tryz.func115 (by kernel_rfl) rfl
  · exact callable_of Tryz.func116 (by kernel_rfl) rfl
  · exact callable_of Tryz.func117 (by kernel_rfl) rfl
  · exact callable_of Tryz.func118 (by kernel_rfl) rfl
  · exact callable_of Tryz.func119 (by kernel_rfl) rfl
  · exact callable_of Tryz.func120 (by kernel_rfl) rfl
  · exact callable_of Tryz.func121 (by kernel_rfl) rfl
  · exact callable_of Tryz.func122 (by kernel_rfl) rfl
  · exact callable_of Tryz.func123 (by kernel_rfl) rfl
  · exact callable_of Tryz.func124 (by kernel_rfl) rfl
  · exact callable_of Tryz.func125 (by kernel_rfl) rfl
  · exact callable_of Tryz.func126 (by kernel_rfl) rfl
  · exact callable_of Tryz.func127 (by kernel_rfl) rfl
  · exact callable_of Tryz.func128 (by kernel_rfl) rfl
  · exact callable_of Tryz.func129 (by kernel_rfl) rfl
  · exact callable_of Tryz.func130 (by kernel_rfl) rfl
  · exact callable_of Tryz.func131 (by kernel_rfl) rfl
  · exact callable_of Tryz.func132 (by kernel_rfl) rfl
  · exact callable_of Tryz.func133 (by kernel_rfl) rfl
  · exact callable_of Tryz.func134 (by kernel_rfl) rfl
  · exact callable_of Tryz.func135 (by kernel_rfl) rfl
  · exact callable_of Tryz.func136 (by kernel_rfl) rfl
  · exact callable_of Tryz.func137 (by kernel_rfl) rfl
  · exact callable_of Tryz.func138 (by kernel_rfl) rfl
  · exact callable_of Tryz.func139 (by kernel_rfl) rfl
  · exact callable_of Tryz.func140 (by kernel_rfl) rfl
  · exact callable_of Tryz.func141 (by kernel_rfl) rfl
  · exact callable_of Tryz.func142 (by kernel_rfl) rfl
  · exact callable_of Tryz.func143 (by kernel_rfl) rfl
  · exact callable_of Tryz.func144 (by kernel_rfl) rfl
  · exact callable_of Tryz.func145 (by kernel_rfl) rfl
  · exact callable_of Tryz.func146 (by kernel_rfl) rfl
  · exact callable_of Tryz.func147 (by kernel_rfl) rfl
  · exact callable_of Tryz.func148 (by kernel_rfl) rfl
  · exact callable_of Tryz.func149 (by kernel_rfl) rfl
  · exact callable_of Tryz.func150 (by kernel_rfl) rfl
  · exact callable_of Tryz.func151 (by kernel_rfl) rfl
  · exact callable_of Tryz.func152 (by kernel_rfl) rfl
  · exact callable_of Tryz.func153 (by kernel_rfl) rfl
  · exact callable_of Tryz.func154 (by kernel_rfl) rfl
  · exact callable_of Tryz.func155 (by kernel_rfl) rfl
  · exact callable_of Tryz.func156 (by kernel_rfl) rfl
  · exact callable_of Tryz.func157 (by kernel_rfl) rfl
  · exact callable_of Tryz.func158 (by kernel_rfl) rfl
  · exact callable_of Tryz.func159 (by kernel_rfl) rfl
  · exact callable_of Tryz.func160 (by kernel_rfl) rfl
  · exact callable_of Tryz.func161 (by kernel_rfl) rfl
  · exact callable_of Tryz.func162 (by kernel_rfl) rfl
  · exact callable_of Tryz.func163 (by kernel_rfl) rfl
  · exact callable_of Tryz.func164 (by kernel_rfl) rfl
  · exact callable_of Tryz.func165 (by kernel_rfl) rfl
  · exact callable_of Tryz.func166 (by kernel_rfl) rfl
  · exact callable_of Tryz.func167 (by kernel_rfl) rfl
  · exact callable_of Tryz.func168 (by kernel_rfl) rfl
  · exact callable_of Tryz.func169 (by kernel_rfl) rfl
  · exact callable_of Tryz.func170 (by kernel_rfl) rfl
  · exact callable_of Tryz.func171 (by kernel_rfl) rfl
  · exact callable_of Tryz.func172 (by kernel_rfl) rfl
  · exact callable_of Tryz.func173 (by kernel_rfl) rfl
  · exact callable_of Tryz.func174 (by kernel_rfl) rfl
  · exact callable_of Tryz.func175 (by kernel_rfl) rfl
  · exact callable_of Tryz.func176 (by kernel_rfl) rfl
  · exact callable_of Tryz.func177 (by kernel_rfl) rfl
  · exact callable_of Tryz.func178 (by kernel_rfl) rfl
  · exact callable_of Tryz.func179 (by kernel_rfl) rfl
  · exact callable_of Tryz.func180 (by kernel_rfl) rfl
  · exact callable_of Tryz.func181 (by kernel_rfl) rfl
  · exact callable_of Tryz.func182 (by kernel_rfl) rfl
  · exact callable_of Tryz.func183 (by kernel_rfl) rfl
  · exact callable_of Tryz.func184 (by kernel_rfl) rfl
  · exact callable_of Tryz.func185 (by kernel_rfl) rfl
  · exact callable_of Tryz.func186 (by kernel_rfl) rfl
  · exact callable_of Tryz.func187 (by kernel_rfl) rfl
  · exact callable_of Tryz.func188 (by kernel_rfl) rfl
  · exact callable_of Tryz.func189 (by kernel_rfl) rfl
  · exact callable_of Tryz.func190 (by kernel_rfl) rfl
  · exact callable_of Tryz.func191 (by kernel_rfl) rfl
  · exact callable_of Tryz.func192 (by kernel_rfl) rfl
  · exact callable_of Tryz.func193 (by kernel_rfl) rfl
  · exact callable_of Tryz.func194 (by kernel_rfl) rfl
  · exact callable_of Tryz.func195 (by kernel_rfl) rfl
  · exact callable_of Tryz.func196 (by kernel_rfl) rfl
  · exact callable_of Tryz.func197 (by kernel_rfl) rfl
  · exact callable_of Tryz.func198 (by kernel_rfl) rfl
  · exact callable_of Tryz.func199 (by kernel_rfl) rfl
  · exact callable_of Tryz.func200 (by kernel_rfl) rfl
  · exact callable_of Tryz.func201 (by kernel_rfl) rfl
  · exact callable_of Tryz.func202 (by kernel_rfl) rfl
  · exact callable_of Tryz.func203 (by kernel_rfl) rfl
  · exact callable_of Tryz.func204 (by kernel_rfl) rfl
  · exact callable_of Tryz.func205 (by kernel_rfl) rfl
  · exact callable_of Tryz.func206 (by kernel_rfl) rfl
  · exact callable_of Tryz.func207 (by kernel_rfl) rfl
  · exact callable_of Tryz.func208 (by kernel_rfl) rfl
  · exact callable_of Tryz.func209 (by kernel_rfl) rfl
  · exact callable_of Tryz.func210 (by kernel_rfl) rfl
  · exact callable_of Tryz.func211 (by kernel_rfl) rfl
  · exact callable_of Tryz.func212 (by kernel_rfl) rfl
  · exact callable_of Tryz.func213 (by kernel_rfl) rfl
  · exact callable_of Tryz.func214 (by kernel_rfl) rfl
  · exact callable_of Tryz.func215 (by kernel_rfl) rfl
  · exact callable_of Tryz.func216 (by kernel_rfl) rfl
  · exact callable_of Tryz.func217 (by kernel_rfl) rfl
  · exact callable_of Tryz.func218 (by kernel_rfl) rfl
  · exact callable_of Tryz.func219 (by kernel_rfl) rfl
  · exact callable_of Tryz.func220 (by kernel_rfl) rfl
  · exact callable_of Tryz.func221 (by kernel_rfl) rfl
  · exact callable_of Tryz.func222 (by kernel_rfl) rfl
  · exact callable_of Tryz.func223 (by kernel_rfl) rfl
  · exact callable_of Tryz.func224 (by kernel_rfl) rfl
  · exact callable_of Tryz.func225 (by kernel_rfl) rfl
  · exact callable_of Tryz.func226 (by kernel_rfl) rfl
  · exact callable_of Tryz.func227 (by kernel_rfl) rfl
  · exact callable_of Tryz.func228 (by kernel_rfl) rfl
  · exact callable_of Tryz.func229 (by kernel_rfl) rfl
  · exact callable_of Tryz.func230 (by kernel_rfl) rfl
  · exact callable_of Tryz.func231 (by kernel_rfl) rfl
  · exact callable_of Tryz.func232 (by kernel_rfl) rfl
  · exact callable_of Tryz.func233 (by kernel_rfl) rfl
  · exact callable_of Tryz.func234 (by kernel_rfl) rfl
  · exact callable_of Tryz.func235 (by kernel_rfl) rfl
  · exact callable_of Tryz.func236 (by kernel_rfl) rfl
  · exact callable_of Tryz.func237 (by kernel_rfl) rfl
  · exact callable_of Tryz.func238 (by kernel_rfl) rfl
  · exact callable_of Tryz.func239 (by kernel_rfl) rfl
  · exact callable_of Tryz.func240 (by kernel_rfl) rfl
  · exact callable_of Tryz.func241 (by kernel_rfl) rfl
  · exact callable_of Tryz.func243 (by kernel_rfl) rfl
  · exact callable_of Tryz.func244 (by kernel_rfl) rfl
  · exact callable_of Tryz.func245 (by kernel_rfl) rfl
  · exact callable_of Tryz.func246 (by kernel_rfl) rfl
  · exact callable_of Tryz.func247 (by kernel_rfl) rfl
  · exact callable_of Tryz.func248 (by kernel_rfl) rfl
  · exact callable_of Tryz.func249 (by kernel_rfl) rfl
  · exact callable_of Tryz.func250 (by kernel_rfl) rfl
  · exact callable_of Tryz.func251 (by kernel_rfl) rfl
  · exact callable_of Tryz.func252 (by kernel_rfl) rfl
  · exact callable_of Tryz.func253 (by kernel_rfl) rfl
  · exact callable_of Tryz.func254 (by kernel_rfl) rfl
  · exact callable_of Tryz.func255 (by kernel_rfl) rfl
  · exact callable_of Tryz.func256 (by kernel_rfl) rfl
  · exact callable_of Tryz.func257 (by kernel_rfl) rfl
  · exact callable_of Tryz.func258 (by kernel_rfl) rfl
  · exact callable_of Tryz.func259 (by kernel_rfl) rfl
  · exact callable_of Tryz.func260 (by kernel_rfl) rfl
  · exact callable_of Tryz.func261 (by kernel_rfl) rfl
  · exact callable_of Tryz.func262 (by kernel_rfl) rfl
  · exact callable_of Tryz.func263 (by kernel_rfl) rfl
  · exact callable_of Tryz.func264 (by kernel_rfl) rfl
  · exact callable_of Tryz.func265 (by kernel_rfl) rfl
  · exact callable_of Tryz.func266 (by kernel_rfl) rfl
  · exact callable_of Tryz.func267 (by kernel_rfl) rfl
  · exact callable_of Tryz.func268 (by kernel_rfl) rfl
  · exact callable_of Tryz.func269 (by kernel_rfl) rfl
  · exact callable_of Tryz.func270 (by kernel_rfl) rfl
  · exact callable_of Tryz.func271 (by kernel_rfl) rfl
  · exact callable_of Tryz.func273 (by kernel_rfl) rfl
  · exact callable_of Tryz.func274 (by kernel_rfl) rfl
  · exact callable_of Tryz.func275 (by kernel_rfl) rfl
  · exact callable_of Tryz.func276 (by kernel_rfl) rfl
  · exact callable_of Tryz.func277 (by kernel_rfl) rfl
  · exact callable_of Tryz.func278 (by kernel_rfl) rfl
  · exact callable_of Tryz.func279 (by kernel_rfl) rfl
  · exact callable_of Tryz.func280 (by kernel_rfl) rfl
  · exact callable_of Tryz.func302 (by kernel_rfl) rfl
theorem mixed : Tryz.prog.follows .mixedOrders = true := by kernel_rfl
theorem i64w {x : Int} (h : -9223372036854775808 ≤ x ∧ x ≤ 9223372036854775807) : IntKind.i64.wrap x = x := IntWalk.i64_in _ h
def boolV (r : Bool × Int) : Value := .tuple ⟨[.bool r.1, .int .i64 r.2]⟩
@[reducible] def mn (x y : Int) : Int := if y < x then y else x
@[reducible] def mx (x y : Int) : Int := if y > x then y else x
theorem mn_bd (x y : Int) : mn x y ≤ x ∧ mn x y ≤ y ∧ (mn x y = x ∨ mn x y = y) := by unfold mn; split <;> omega
theorem mx_bd (x y : Int) : x ≤ mx x y ∧ y ≤ mx x y ∧ (mx x y = x ∨ mx x y = y) := by unfold mx; split <;> omega
def flD (a b : Int) : Int := if 0 < b then a / b else -a / -b
theorem tm_sign (a b : Int) : (0 ≤ a → 0 ≤ a.tmod b) ∧ (a ≤ 0 → a.tmod b ≤ 0) := by
  constructor
  · intro h; exact Int.tmod_nonneg b h
  · intro h
    have := Int.tmod_nonneg b (show 0 ≤ -a by omega)
    rw [Int.neg_tmod] at this
    omega
theorem fl_pos (a b : Int) (hb : 0 < b) : a / b = (if a.tmod b ≠ 0 ∧ a < 0 then a.tdiv b - 1 else a.tdiv b) := by
  have h1 := Int.mul_tdiv_add_tmod a b
  have h2 := tm_sign a b
  have h3 := Int.tmod_lt_of_pos a hb
  have h4 := Int.tmod_lt_of_pos (-a) hb
  rw [Int.neg_tmod] at h4
  split
  · rename_i h
    have h5 : a.tmod b < 0 := by have := h2.2 (by omega); omega
    refine ((Int.ediv_emod_unique hb (r := a.tmod b + b)).2 ⟨?_, by omega, by omega⟩).1
    rw [Int.mul_sub]
    omega
  · rename_i h
    have h5 : 0 ≤ a.tmod b := by
      by_cases q : a < 0
      · have : a.tmod b = 0 := by
          by_cases z : a.tmod b = 0
          · exact z
          · exact absurd ⟨z, q⟩ h
        omega
      · exact h2.1 (by omega)
    exact ((Int.ediv_emod_unique hb (r := a.tmod b)).2 ⟨by omega, h5, h3⟩).1
theorem flD_eq (a b : Int) (hb : b ≠ 0) : flD a b = (if a.tmod b ≠ 0 ∧ (decide (a < 0) ≠ decide (b < 0)) then a.tdiv b - 1 else a.tdiv b) := by
  unfold flD
  by_cases h : 0 < b
  · rw [if_pos h, fl_pos a b h]
    have : decide (b < 0) = false := decide_eq_false (by omega)
    rw [this]
    simp
  · rw [if_neg h, fl_pos (-a) (-b) (by omega)]
    have : decide (b < 0) = true := decide_eq_true (by omega)
    rw [this, Int.neg_tmod, Int.tmod_neg, Int.neg_tdiv_neg]
    by_cases h0 : a.tmod b = 0
    · simp [h0]
    · have h1 := tm_sign a b
      have hp : (0 < a) ↔ (0 ≤ a) := by
        constructor
        · intro; omega
        · intro q
          rcases Int.lt_or_le 0 a with z | z
          · exact z
          · have : a = 0 := by omega
            subst this
            simp at h0
      have : (-a < 0) ↔ ¬ a < 0 := by
        constructor
        · intro; omega
        · intro q
          rcases Int.lt_or_le 0 a with z | z
          · omega
          · have : a = 0 := by omega
            subst this
            simp at h0
      simp [h0, hp]
theorem tdiv_bd (a b m : Int) (h1 : -m ≤ a) (h2 : a ≤ m) : -m ≤ a.tdiv b ∧ a.tdiv b ≤ m := by
  have h := Int.natAbs_tdiv a b
  have h3 : (a.tdiv b).natAbs ≤ a.natAbs := by rw [h]; exact Nat.div_le_self _ _
  omega

def fitR (a b : Int) : Int × Int × Int := if validB a b = true then (a, b, 0) else (0, 0, 5)
noncomputable def book_fitR_gives : Book := [(152, eP (fun a b => .bool (validB a b)))]
theorem book_fitR_gives_ok : BookOk Tryz.prog book_fitR_gives := (bookOk_cons (eP_ok (fun a b W _ => valid_any a b W)) bookOk_nil)
theorem fitR_gives_tree (a b : Int) : evF Tryz.prog [] Cs book_fitR_gives 20 6 184 ([.int .i64 a, .int .i64 b].map AV.v) [] [] last =
  cond (!(validB a b))
  (some (.v (.tuple ⟨[.agg ⟨[.int .i64 0, .int .i64 0]⟩, .int .i64 5]⟩)))
  (some (.v (.tuple ⟨[.agg ⟨[.int .i64 a, .int .i64 b]⟩, .int .i64 0]⟩))) := by kernel_rfl
theorem fitR_gives (a b : Int) : Gives Tryz.prog 184 [.int .i64 a, .int .i64 b] (arcV (fitR a b)) := by
  refine evF_gives (E := []) mixed (by simp) Cs_ok book_fitR_gives_ok (lim := 20) (d := 6) (nm := []) ?_
  rw [fitR_gives_tree a b]
  cases h1 : (validB a b)
  · rw [Bool.not_false, cond_true]
    simp [fitR, arcV, pairV, *]
  · rw [Bool.not_true, cond_false]
    simp [fitR, arcV, pairV, *]
def bothB (a b c d : Int) : Bool := validB a b && validB c d
noncomputable def book_bothB_gives : Book := [(152, eP (fun a b => .bool (validB a b)))]
theorem book_bothB_gives_ok : BookOk Tryz.prog book_bothB_gives := (bookOk_cons (eP_ok (fun a b W _ => valid_any a b W)) bookOk_nil)
theorem bothB_gives_tree (a b c d : Int) : evF Tryz.prog [] Cs book_bothB_gives 20 6 183 ([.agg ⟨[.int .i64 a, .int .i64 b]⟩, .agg ⟨[.int .i64 c, .int .i64 d]⟩].map AV.v) [] [] last =
  cond (validB a b)
  (some (.v (.bool (validB c d))))
  (some (.v (.bool false))) := by kernel_rfl
theorem bothB_gives (a b c d : Int) : Gives Tryz.prog 183 [.agg ⟨[.int .i64 a, .int .i64 b]⟩, .agg ⟨[.int .i64 c, .int .i64 d]⟩] (.bool (bothB a b c d)) := by
  refine evF_gives (E := []) mixed (by simp) Cs_ok book_bothB_gives_ok (lim := 20) (d := 6) (nm := []) ?_
  rw [bothB_gives_tree a b c d]
  cases h1 : (validB a b)
  · rw [cond_false]
    simp [bothB, *]
  · rw [cond_true]
    simp [bothB, *]
def zeroB (a b : Int) : Bool := decide (a ≤ 0 ∧ 0 ≤ b)
noncomputable def book_zeroB_gives : Book := []
theorem book_zeroB_gives_ok : BookOk Tryz.prog book_zeroB_gives := bookOk_nil
theorem zeroB_gives_tree (a b : Int) : evF Tryz.prog [] Cs book_zeroB_gives 20 6 223 ([.agg ⟨[.int .i64 a, .int .i64 b]⟩].map AV.v) [] [] last =
  cond (decide (a ≤ 0))
  (some (.v (.bool (decide (b ≥ 0)))))
  (some (.v (.bool false))) := by kernel_rfl
theorem zeroB_gives (a b : Int) : Gives Tryz.prog 223 [.agg ⟨[.int .i64 a, .int .i64 b]⟩] (.bool (zeroB a b)) := by
  refine evF_gives (E := []) mixed (by simp) Cs_ok book_zeroB_gives_ok (lim := 20) (d := 6) (nm := []) ?_
  rw [zeroB_gives_tree a b]
  cases h1 : (decide (a ≤ 0))
  · rw [cond_false]
    replace h1 := of_decide_eq_false h1
    simp [zeroB, *]
  · rw [cond_true]
    replace h1 := of_decide_eq_true h1
    simp [zeroB, *]
def flP (a b : Int) : Bool := decide (b ≠ 0 ∧ -4611686018427387904 ≤ a ∧ a ≤ 4611686018427387904)
noncomputable def book_flD_gives : Book := []
theorem book_flD_gives_ok : BookOk Tryz.prog book_flD_gives := bookOk_nil
theorem flD_gives_tree (a b : Int) : evF Tryz.prog [] Cs book_flD_gives 20 6 185 ([.int .i64 a, .int .i64 b].map AV.v) [] [] last =
  cond (b == 0)
  (none)
  (cond (b == 0)
   (none)
   (cond ((Int.tmod a b) != 0)
    (cond (!((decide (a < 0)) == (decide (b < 0))))
     (some (.v (.int .i64 (IntKind.i64.wrap ((IntKind.i64.wrap (Int.tdiv a b)) - 1)))))
     (some (.v (.int .i64 (IntKind.i64.wrap (Int.tdiv a b))))))
    (some (.v (.int .i64 (IntKind.i64.wrap (Int.tdiv a b))))))) := by kernel_rfl
theorem flD_gives (a b : Int) (hp : flP a b = true) : Gives Tryz.prog 185 [.int .i64 a, .int .i64 b] (.int .i64 (flD a b)) := by
  refine evF_gives (E := []) mixed (by simp) Cs_ok book_flD_gives_ok (lim := 20) (d := 6) (nm := []) ?_
  rw [flD_gives_tree a b]
  obtain ⟨hb, ha1, ha2⟩ := of_decide_eq_true hp
  have t := tdiv_bd a b 4611686018427387904 ha1 ha2
  have e0 : (b == 0) = false := beq_eq_false_iff_ne.2 hb
  rw [e0, i64w (x := Int.tdiv a b) (by omega), i64w (x := Int.tdiv a b - 1) (by omega), flD_eq a b hb]
  simp only [cond_false]
  by_cases h1 : a.tmod b = 0
  · simp [h1]
  · by_cases h2 : decide (a < 0) = decide (b < 0)
    · simp [h1, h2]
    · have e1 : (decide (a < 0) == decide (b < 0)) = false := beq_eq_false_iff_ne.2 h2
      have e2 : (a.tmod b != 0) = true := bne_iff_ne.2 h1
      rw [e1, e2]
      simp [h1, h2]
def ceD (a b : Int) : Int := -flD (-a) b
theorem flD_bd (a b : Int) (hb : b ≠ 0) (m : Int) (h1 : -m ≤ a) (h2 : a ≤ m) : -m - 1 ≤ flD a b ∧ flD a b ≤ m := by
  rw [flD_eq a b hb]
  have := tdiv_bd a b m h1 h2
  split <;> omega
noncomputable def book_ceD_gives : Book := [(185, eIIif flP (fun a b => .int .i64 (flD a b)))]
theorem book_ceD_gives_ok : BookOk Tryz.prog book_ceD_gives := (bookOk_cons (eIIif_ok flD_gives) bookOk_nil)
theorem ceD_gives_tree (a b : Int) : evF Tryz.prog [] Cs book_ceD_gives 20 6 186 ([.int .i64 a, .int .i64 b].map AV.v) [] [] last =
  cond (flP (IntKind.i64.wrap (0 - a)) b)
  (some (.v (.int .i64 (IntKind.i64.wrap (0 - (flD (IntKind.i64.wrap (0 - a)) b))))))
  (none) := by kernel_rfl
theorem ceD_gives (a b : Int) (hp : flP a b = true) : Gives Tryz.prog 186 [.int .i64 a, .int .i64 b] (.int .i64 (ceD a b)) := by
  refine evF_gives (E := []) mixed (by simp) Cs_ok book_ceD_gives_ok (lim := 20) (d := 6) (nm := []) ?_
  rw [ceD_gives_tree a b]
  obtain ⟨hb, ha1, ha2⟩ := of_decide_eq_true hp
  have t := flD_bd (-a) b hb 4611686018427387904 (by omega) (by omega)
  have e1 : IntKind.i64.wrap (0 - a) = -a := by rw [i64w (by omega)]; omega
  have e2 : flP (-a) b = true := decide_eq_true ⟨hb, by omega, by omega⟩
  simp only [e1, e2, cond_true]
  rw [i64w (by omega)]
  unfold ceD
  rw [Int.zero_sub]
def addR (a b c d : Int) : Int × Int × Int := if bothB a b c d = true then fitR (a + c) (b + d) else (0, 0, 1)
theorem both_bd {a b c d : Int} (h : bothB a b c d = true) : -2147483648 ≤ a ∧ a ≤ b ∧ b ≤ 2147483648 ∧ -2147483648 ≤ c ∧ c ≤ d ∧ d ≤ 2147483648 := by
  simp [bothB, validB] at h
  omega
noncomputable def book_addR_gives : Book := [(183, ePP (fun a b c d => .bool (bothB a b c d))), (184, eII (fun a b => arcV (fitR a b)))]
theorem book_addR_gives_ok : BookOk Tryz.prog book_addR_gives := (bookOk_cons (ePP_ok bothB_gives) (bookOk_cons (eII_ok fitR_gives) bookOk_nil))
theorem addR_gives_tree (a b c d : Int) : evF Tryz.prog [] Cs book_addR_gives 20 6 132 ([.agg ⟨[.int .i64 a, .int .i64 b]⟩, .agg ⟨[.int .i64 c, .int .i64 d]⟩].map AV.v) [] [] last =
  cond (!(bothB a b c d))
  (some (.v (.tuple ⟨[.agg ⟨[.int .i64 0, .int .i64 0]⟩, .int .i64 1]⟩)))
  (lt (fitR (IntKind.i64.wrap (a + c)) (IntKind.i64.wrap (b + d))) fun x1 =>
   some (.v (.tuple ⟨[.agg ⟨[.int .i64 x1.1, .int .i64 x1.2.1]⟩, .int .i64 x1.2.2]⟩))) := by kernel_rfl
theorem addR_gives (a b c d : Int) : Gives Tryz.prog 132 [.agg ⟨[.int .i64 a, .int .i64 b]⟩, .agg ⟨[.int .i64 c, .int .i64 d]⟩] (arcV (addR a b c d)) := by
  refine evF_gives (E := []) mixed (by simp) Cs_ok book_addR_gives_ok (lim := 20) (d := 6) (nm := []) ?_
  rw [addR_gives_tree a b c d]
  unfold addR
  cases h : bothB a b c d
  · rfl
  · have := both_bd h
    rw [i64w (by omega), i64w (by omega)]
    rfl
def subR (a b c d : Int) : Int × Int × Int := if bothB a b c d = true then fitR (a - d) (b - c) else (0, 0, 1)
noncomputable def book_subR_gives : Book := [(183, ePP (fun a b c d => .bool (bothB a b c d))), (184, eII (fun a b => arcV (fitR a b)))]
theorem book_subR_gives_ok : BookOk Tryz.prog book_subR_gives := (bookOk_cons (ePP_ok bothB_gives) (bookOk_cons (eII_ok fitR_gives) bookOk_nil))
theorem subR_gives_tree (a b c d : Int) : evF Tryz.prog [] Cs book_subR_gives 20 6 192 ([.agg ⟨[.int .i64 a, .int .i64 b]⟩, .agg ⟨[.int .i64 c, .int .i64 d]⟩].map AV.v) [] [] last =
  cond (!(bothB a b c d))
  (some (.v (.tuple ⟨[.agg ⟨[.int .i64 0, .int .i64 0]⟩, .int .i64 1]⟩)))
  (lt (fitR (IntKind.i64.wrap (a - d)) (IntKind.i64.wrap (b - c))) fun x1 =>
   some (.v (.tuple ⟨[.agg ⟨[.int .i64 x1.1, .int .i64 x1.2.1]⟩, .int .i64 x1.2.2]⟩))) := by kernel_rfl
theorem subR_gives (a b c d : Int) : Gives Tryz.prog 192 [.agg ⟨[.int .i64 a, .int .i64 b]⟩, .agg ⟨[.int .i64 c, .int .i64 d]⟩] (arcV (subR a b c d)) := by
  refine evF_gives (E := []) mixed (by simp) Cs_ok book_subR_gives_ok (lim := 20) (d := 6) (nm := []) ?_
  rw [subR_gives_tree a b c d]
  unfold subR
  cases h : bothB a b c d
  · rfl
  · have := both_bd h
    rw [i64w (by omega), i64w (by omega)]
    rfl
def negR (a b : Int) : Int × Int × Int := if validB a b = true then (-b, -a, 0) else (0, 0, 1)
noncomputable def book_negR_gives : Book := [(152, eP (fun a b => .bool (validB a b)))]
theorem book_negR_gives_ok : BookOk Tryz.prog book_negR_gives := (bookOk_cons (eP_ok (fun a b W _ => valid_any a b W)) bookOk_nil)
theorem negR_gives_tree (a b : Int) : evF Tryz.prog [] Cs book_negR_gives 20 6 138 ([.agg ⟨[.int .i64 a, .int .i64 b]⟩].map AV.v) [] [] last =
  cond (!(validB a b))
  (some (.v (.tuple ⟨[.agg ⟨[.int .i64 0, .int .i64 0]⟩, .int .i64 1]⟩)))
  (some (.v (.tuple ⟨[.agg ⟨[.int .i64 (IntKind.i64.wrap (0 - b)), .int .i64 (IntKind.i64.wrap (0 - a))]⟩, .int .i64 0]⟩))) := by kernel_rfl
theorem negR_gives (a b : Int) : Gives Tryz.prog 138 [.agg ⟨[.int .i64 a, .int .i64 b]⟩] (arcV (negR a b)) := by
  refine evF_gives (E := []) mixed (by simp) Cs_ok book_negR_gives_ok (lim := 20) (d := 6) (nm := []) ?_
  rw [negR_gives_tree a b]
  unfold negR
  cases h : validB a b
  · rfl
  · have : -2147483648 ≤ a ∧ a ≤ b ∧ b ≤ 2147483648 := by simpa [validB] using h
    rw [i64w (by omega), i64w (by omega), Int.zero_sub, Int.zero_sub]
    rfl
def mulL (a b c d : Int) : Int := mn (mn (mn (a * c) (a * d)) (b * c)) (b * d)
def mulH (a b c d : Int) : Int := mx (mx (mx (a * c) (a * d)) (b * c)) (b * d)
def mulR (a b c d : Int) : Int × Int × Int := if bothB a b c d = true then fitR (mulL a b c d / 1073741824) (-(-mulH a b c d / 1073741824)) else (0, 0, 1)
theorem pmul_bd {x y : Int} (h1 : -2147483648 ≤ x) (h2 : x ≤ 2147483648) (h3 : -2147483648 ≤ y) (h4 : y ≤ 2147483648) : -4611686018427387904 ≤ x * y ∧ x * y ≤ 4611686018427387904 := by
  have h : (x * y).natAbs = x.natAbs * y.natAbs := Int.natAbs_mul x y
  have : x.natAbs * y.natAbs ≤ 2147483648 * 2147483648 := Nat.mul_le_mul (by omega) (by omega)
  omega
noncomputable def book_mulR_gives : Book := [(183, ePP (fun a b c d => .bool (bothB a b c d))), (184, eII (fun a b => arcV (fitR a b))), (185, eIIif flP (fun a b => .int .i64 (flD a b))), (186, eIIif flP (fun a b => .int .i64 (ceD a b)))]
theorem book_mulR_gives_ok : BookOk Tryz.prog book_mulR_gives := (bookOk_cons (ePP_ok bothB_gives) (bookOk_cons (eII_ok fitR_gives) (bookOk_cons (eIIif_ok flD_gives) (bookOk_cons (eIIif_ok ceD_gives) bookOk_nil))))
theorem mulR_gives_tree (a b c d : Int) : evF Tryz.prog [] Cs book_mulR_gives 20 6 127 ([.agg ⟨[.int .i64 a, .int .i64 b]⟩, .agg ⟨[.int .i64 c, .int .i64 d]⟩].map AV.v) [] [] last =
  cond (!(bothB a b c d))
  (some (.v (.tuple ⟨[.agg ⟨[.int .i64 0, .int .i64 0]⟩, .int .i64 1]⟩)))
  (cond (flP (mn (mn (mn (IntKind.i64.wrap (a * c)) (IntKind.i64.wrap (a * d))) (IntKind.i64.wrap (b * c))) (IntKind.i64.wrap (b * d))) 1073741824)
   (cond (flP (mx (mx (mx (IntKind.i64.wrap (a * c)) (IntKind.i64.wrap (a * d))) (IntKind.i64.wrap (b * c))) (IntKind.i64.wrap (b * d))) 1073741824)
    (lt (fitR (flD (mn (mn (mn (IntKind.i64.wrap (a * c)) (IntKind.i64.wrap (a * d))) (IntKind.i64.wrap (b * c))) (IntKind.i64.wrap (b * d))) 1073741824) (ceD (mx (mx (mx (IntKind.i64.wrap (a * c)) (IntKind.i64.wrap (a * d))) (IntKind.i64.wrap (b * c))) (IntKind.i64.wrap (b * d))) 1073741824)) fun x1 =>
     some (.v (.tuple ⟨[.agg ⟨[.int .i64 x1.1, .int .i64 x1.2.1]⟩, .int .i64 x1.2.2]⟩)))
    (none))
   (none)) := by kernel_rfl
theorem mulR_gives (a b c d : Int) : Gives Tryz.prog 127 [.agg ⟨[.int .i64 a, .int .i64 b]⟩, .agg ⟨[.int .i64 c, .int .i64 d]⟩] (arcV (mulR a b c d)) := by
  refine evF_gives (E := []) mixed (by simp) Cs_ok book_mulR_gives_ok (lim := 20) (d := 6) (nm := []) ?_
  rw [mulR_gives_tree a b c d]
  unfold mulR
  cases h : bothB a b c d
  · rfl
  · have := both_bd h
    have p1 := pmul_bd (x := a) (y := c) (by omega) (by omega) (by omega) (by omega)
    have p2 := pmul_bd (x := a) (y := d) (by omega) (by omega) (by omega) (by omega)
    have p3 := pmul_bd (x := b) (y := c) (by omega) (by omega) (by omega) (by omega)
    have p4 := pmul_bd (x := b) (y := d) (by omega) (by omega) (by omega) (by omega)
    rw [i64w (x := a * c) (by omega), i64w (x := a * d) (by omega), i64w (x := b * c) (by omega), i64w (x := b * d) (by omega)]
    have e1 : mn (mn (mn (a * c) (a * d)) (b * c)) (b * d) = mulL a b c d := rfl
    have e2 : mx (mx (mx (a * c) (a * d)) (b * c)) (b * d) = mulH a b c d := rfl
    have b1 : -4611686018427387904 ≤ mulL a b c d ∧ mulL a b c d ≤ 4611686018427387904 := by
      have q1 := mn_bd (a * c) (a * d)
      have q2 := mn_bd (mn (a * c) (a * d)) (b * c)
      have q3 := mn_bd (mn (mn (a * c) (a * d)) (b * c)) (b * d)
      rw [e1] at q3
      omega
    have b2 : -4611686018427387904 ≤ mulH a b c d ∧ mulH a b c d ≤ 4611686018427387904 := by
      have q1 := mx_bd (a * c) (a * d)
      have q2 := mx_bd (mx (a * c) (a * d)) (b * c)
      have q3 := mx_bd (mx (mx (a * c) (a * d)) (b * c)) (b * d)
      rw [e2] at q3
      omega
    rw [e1, e2]
    have f1 : flP (mulL a b c d) 1073741824 = true := decide_eq_true ⟨by omega, b1.1, b1.2⟩
    have f2 : flP (mulH a b c d) 1073741824 = true := decide_eq_true ⟨by omega, b2.1, b2.2⟩
    rw [f1, f2]
    have g1 : flD (mulL a b c d) 1073741824 = mulL a b c d / 1073741824 := rfl
    have g2 : ceD (mulH a b c d) 1073741824 = -(-mulH a b c d / 1073741824) := rfl
    rw [g1, g2]
    rfl
end Go.Proofs.YtmididlfnajhiaaGreatDoor
