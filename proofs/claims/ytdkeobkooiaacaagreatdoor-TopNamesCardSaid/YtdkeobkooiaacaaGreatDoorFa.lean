/- The functions that TopNames leads to, one by one, and what the row says of them (no condition). -/
import Derived.Test.YtdkeobkooiaacaaGreatDoorRows
import Derived.Test.YtdkeobkooiaacaaGreatDoorEv6
import GoSem.ClaimGoes
import Derived.KernelRfl
namespace Go.Proofs.YtdkeobkooiaacaaGreatDoor
open Go Go.Proofs.YtdkeobkooiaacaaGreatDoor.Ev
def cg0 : List Nat := [3, 4, 5, 6, 14, 8, 24, 59, 167, 60, 46, 131, 249, 250, 47, 7, 15, 48, 51, 140, 141, 142, 145, 257, 405, 406, 335, 407, 408, 409, 143, 258, 410, 259, 144, 146, 260, 147, 148, 261]
noncomputable def cf0 : List Func := [Tryz.f3, Tryz.f4, Tryz.f5, Tryz.f6, Tryz.f14, Tryz.f8, Tryz.f24, Tryz.f59, Tryz.f167, Tryz.f60, Tryz.f46, Tryz.f131, Tryz.f249, Tryz.f250, Tryz.f47, Tryz.f7, Tryz.f15, Tryz.f48, Tryz.f51, Tryz.f140, Tryz.f141, Tryz.f142, Tryz.f145, Tryz.f257, Tryz.f405, Tryz.f406, Tryz.f335, Tryz.f407, Tryz.f408, Tryz.f409, Tryz.f143, Tryz.f258, Tryz.f410, Tryz.f259, Tryz.f144, Tryz.f146, Tryz.f260, Tryz.f147, Tryz.f148, Tryz.f261]
theorem cm0 : cg0.map (fun g => Tryz.prog.funcs[g]?) = cf0.map some := by
  unfold cg0 cf0
  simp only [List.map_cons, List.map_nil, Tryz.func3, Tryz.func4, Tryz.func5, Tryz.func6, Tryz.func14, Tryz.func8, Tryz.func24, Tryz.func59, Tryz.func167, Tryz.func60, Tryz.func46, Tryz.func131, Tryz.func249, Tryz.func250, Tryz.func47, Tryz.func7, Tryz.func15, Tryz.func48, Tryz.func51, Tryz.func140, Tryz.func141, Tryz.func142, Tryz.func145, Tryz.func257, Tryz.func405, Tryz.func406, Tryz.func335, Tryz.func407, Tryz.func408, Tryz.func409, Tryz.func143, Tryz.func258, Tryz.func410, Tryz.func259, Tryz.func144, Tryz.func146, Tryz.func260, Tryz.func147, Tryz.func148, Tryz.func261]
def cg1 : List Nat := [149, 262, 132, 158, 277, 278, 336, 22, 423, 524, 462, 338, 337, 525, 222, 339, 17, 52, 54, 155, 176, 296, 297, 273, 412, 418, 523, 413, 520, 414, 443, 444, 415, 521, 522, 609, 416, 417, 419, 420]
noncomputable def cf1 : List Func := [Tryz.f149, Tryz.f262, Tryz.f132, Tryz.f158, Tryz.f277, Tryz.f278, Tryz.f336, Tryz.f22, Tryz.f423, Tryz.f524, Tryz.f462, Tryz.f338, Tryz.f337, Tryz.f525, Tryz.f222, Tryz.f339, Tryz.f17, Tryz.f52, Tryz.f54, Tryz.f155, Tryz.f176, Tryz.f296, Tryz.f297, Tryz.f273, Tryz.f412, Tryz.f418, Tryz.f523, Tryz.f413, Tryz.f520, Tryz.f414, Tryz.f443, Tryz.f444, Tryz.f415, Tryz.f521, Tryz.f522, Tryz.f609, Tryz.f416, Tryz.f417, Tryz.f419, Tryz.f420]
theorem cm1 : cg1.map (fun g => Tryz.prog.funcs[g]?) = cf1.map some := by
  unfold cg1 cf1
  simp only [List.map_cons, List.map_nil, Tryz.func149, Tryz.func262, Tryz.func132, Tryz.func158, Tryz.func277, Tryz.func278, Tryz.func336, Tryz.func22, Tryz.func423, Tryz.func524, Tryz.func462, Tryz.func338, Tryz.func337, Tryz.func525, Tryz.func222, Tryz.func339, Tryz.func17, Tryz.func52, Tryz.func54, Tryz.func155, Tryz.func176, Tryz.func296, Tryz.func297, Tryz.func273, Tryz.func412, Tryz.func418, Tryz.func523, Tryz.func413, Tryz.func520, Tryz.func414, Tryz.func443, Tryz.func444, Tryz.func415, Tryz.func521, Tryz.func522, Tryz.func609, Tryz.func416, Tryz.func417, Tryz.func419, Tryz.func420]
def cg2 : List Nat := [150, 263, 53, 151, 264, 411, 397, 516, 396, 515, 604, 265, 153, 269, 267, 266, 268, 152, 270, 272, 271, 154, 55, 156, 274, 421, 275, 422, 276, 49, 133, 251, 134, 136, 253, 399, 401, 518, 519, 400]
noncomputable def cf2 : List Func := [Tryz.f150, Tryz.f263, Tryz.f53, Tryz.f151, Tryz.f264, Tryz.f411, Tryz.f397, Tryz.f516, Tryz.f396, Tryz.f515, Tryz.f604, Tryz.f265, Tryz.f153, Tryz.f269, Tryz.f267, Tryz.f266, Tryz.f268, Tryz.f152, Tryz.f270, Tryz.f272, Tryz.f271, Tryz.f154, Tryz.f55, Tryz.f156, Tryz.f274, Tryz.f421, Tryz.f275, Tryz.f422, Tryz.f276, Tryz.f49, Tryz.f133, Tryz.f251, Tryz.f134, Tryz.f136, Tryz.f253, Tryz.f399, Tryz.f401, Tryz.f518, Tryz.f519, Tryz.f400]
theorem cm2 : cg2.map (fun g => Tryz.prog.funcs[g]?) = cf2.map some := by
  unfold cg2 cf2
  simp only [List.map_cons, List.map_nil, Tryz.func150, Tryz.func263, Tryz.func53, Tryz.func151, Tryz.func264, Tryz.func411, Tryz.func397, Tryz.func516, Tryz.func396, Tryz.func515, Tryz.func604, Tryz.func265, Tryz.func153, Tryz.func269, Tryz.func267, Tryz.func266, Tryz.func268, Tryz.func152, Tryz.func270, Tryz.func272, Tryz.func271, Tryz.func154, Tryz.func55, Tryz.func156, Tryz.func274, Tryz.func421, Tryz.func275, Tryz.func422, Tryz.func276, Tryz.func49, Tryz.func133, Tryz.func251, Tryz.func134, Tryz.func136, Tryz.func253, Tryz.func399, Tryz.func401, Tryz.func518, Tryz.func519, Tryz.func400]
def cg3 : List Nat := [254, 402, 221, 255, 403, 135, 252, 398, 424, 517, 605, 488, 577, 606, 673, 526, 727, 610, 527, 728, 729, 528, 607, 674, 425, 608, 137, 16, 50, 138, 139, 256, 404, 18, 56, 157, 159, 279, 57, 160]
noncomputable def cf3 : List Func := [Tryz.f254, Tryz.f402, Tryz.f221, Tryz.f255, Tryz.f403, Tryz.f135, Tryz.f252, Tryz.f398, Tryz.f424, Tryz.f517, Tryz.f605, Tryz.f488, Tryz.f577, Tryz.f606, Tryz.f673, Tryz.f526, Tryz.f727, Tryz.f610, Tryz.f527, Tryz.f728, Tryz.f729, Tryz.f528, Tryz.f607, Tryz.f674, Tryz.f425, Tryz.f608, Tryz.f137, Tryz.f16, Tryz.f50, Tryz.f138, Tryz.f139, Tryz.f256, Tryz.f404, Tryz.f18, Tryz.f56, Tryz.f157, Tryz.f159, Tryz.f279, Tryz.f57, Tryz.f160]
theorem cm3 : cg3.map (fun g => Tryz.prog.funcs[g]?) = cf3.map some := by
  unfold cg3 cf3
  simp only [List.map_cons, List.map_nil, Tryz.func254, Tryz.func402, Tryz.func221, Tryz.func255, Tryz.func403, Tryz.func135, Tryz.func252, Tryz.func398, Tryz.func424, Tryz.func517, Tryz.func605, Tryz.func488, Tryz.func577, Tryz.func606, Tryz.func673, Tryz.func526, Tryz.func727, Tryz.func610, Tryz.func527, Tryz.func728, Tryz.func729, Tryz.func528, Tryz.func607, Tryz.func674, Tryz.func425, Tryz.func608, Tryz.func137, Tryz.func16, Tryz.func50, Tryz.func138, Tryz.func139, Tryz.func256, Tryz.func404, Tryz.func18, Tryz.func56, Tryz.func157, Tryz.func159, Tryz.func279, Tryz.func57, Tryz.func160]
def cg4 : List Nat := [280, 98, 217, 218, 97, 216, 334, 458, 459, 538, 539, 460, 461, 540, 541, 614, 615, 219, 161, 162, 281, 426, 163, 58, 164, 165, 282, 427, 428, 529, 611, 166, 283, 429, 430, 447, 431, 432, 433, 434]
noncomputable def cf4 : List Func := [Tryz.f280, Tryz.f98, Tryz.f217, Tryz.f218, Tryz.f97, Tryz.f216, Tryz.f334, Tryz.f458, Tryz.f459, Tryz.f538, Tryz.f539, Tryz.f460, Tryz.f461, Tryz.f540, Tryz.f541, Tryz.f614, Tryz.f615, Tryz.f219, Tryz.f161, Tryz.f162, Tryz.f281, Tryz.f426, Tryz.f163, Tryz.f58, Tryz.f164, Tryz.f165, Tryz.f282, Tryz.f427, Tryz.f428, Tryz.f529, Tryz.f611, Tryz.f166, Tryz.f283, Tryz.f429, Tryz.f430, Tryz.f447, Tryz.f431, Tryz.f432, Tryz.f433, Tryz.f434]
theorem cm4 : cg4.map (fun g => Tryz.prog.funcs[g]?) = cf4.map some := by
  unfold cg4 cf4
  simp only [List.map_cons, List.map_nil, Tryz.func280, Tryz.func98, Tryz.func217, Tryz.func218, Tryz.func97, Tryz.func216, Tryz.func334, Tryz.func458, Tryz.func459, Tryz.func538, Tryz.func539, Tryz.func460, Tryz.func461, Tryz.func540, Tryz.func541, Tryz.func614, Tryz.func615, Tryz.func219, Tryz.func161, Tryz.func162, Tryz.func281, Tryz.func426, Tryz.func163, Tryz.func58, Tryz.func164, Tryz.func165, Tryz.func282, Tryz.func427, Tryz.func428, Tryz.func529, Tryz.func611, Tryz.func166, Tryz.func283, Tryz.func429, Tryz.func430, Tryz.func447, Tryz.func431, Tryz.func432, Tryz.func433, Tryz.func434]
def cg5 : List Nat := [435, 436, 19, 20, 21, 23, 9, 25, 61, 168, 169, 170, 171, 172, 284, 437, 438, 530, 285, 439, 440, 173, 286, 441, 174, 26, 62, 175, 287, 293, 288, 442, 289, 290, 445, 446, 531, 291, 292, 294]
noncomputable def cf5 : List Func := [Tryz.f435, Tryz.f436, Tryz.f19, Tryz.f20, Tryz.f21, Tryz.f23, Tryz.f9, Tryz.f25, Tryz.f61, Tryz.f168, Tryz.f169, Tryz.f170, Tryz.f171, Tryz.f172, Tryz.f284, Tryz.f437, Tryz.f438, Tryz.f530, Tryz.f285, Tryz.f439, Tryz.f440, Tryz.f173, Tryz.f286, Tryz.f441, Tryz.f174, Tryz.f26, Tryz.f62, Tryz.f175, Tryz.f287, Tryz.f293, Tryz.f288, Tryz.f442, Tryz.f289, Tryz.f290, Tryz.f445, Tryz.f446, Tryz.f531, Tryz.f291, Tryz.f292, Tryz.f294]
theorem cm5 : cg5.map (fun g => Tryz.prog.funcs[g]?) = cf5.map some := by
  unfold cg5 cf5
  simp only [List.map_cons, List.map_nil, Tryz.func435, Tryz.func436, Tryz.func19, Tryz.func20, Tryz.func21, Tryz.func23, Tryz.func9, Tryz.func25, Tryz.func61, Tryz.func168, Tryz.func169, Tryz.func170, Tryz.func171, Tryz.func172, Tryz.func284, Tryz.func437, Tryz.func438, Tryz.func530, Tryz.func285, Tryz.func439, Tryz.func440, Tryz.func173, Tryz.func286, Tryz.func441, Tryz.func174, Tryz.func26, Tryz.func62, Tryz.func175, Tryz.func287, Tryz.func293, Tryz.func288, Tryz.func442, Tryz.func289, Tryz.func290, Tryz.func445, Tryz.func446, Tryz.func531, Tryz.func291, Tryz.func292, Tryz.func294]
def cg6 : List Nat := [295, 63, 27, 64, 177, 178, 298, 29, 65, 180, 179, 66, 67, 30, 80, 28, 68, 69, 181, 299, 448, 532, 188, 182, 300, 183, 301, 184, 185, 302, 186, 189, 191, 303, 449, 533, 70, 71, 187, 72]
noncomputable def cf6 : List Func := [Tryz.f295, Tryz.f63, Tryz.f27, Tryz.f64, Tryz.f177, Tryz.f178, Tryz.f298, Tryz.f29, Tryz.f65, Tryz.f180, Tryz.f179, Tryz.f66, Tryz.f67, Tryz.f30, Tryz.f80, Tryz.f28, Tryz.f68, Tryz.f69, Tryz.f181, Tryz.f299, Tryz.f448, Tryz.f532, Tryz.f188, Tryz.f182, Tryz.f300, Tryz.f183, Tryz.f301, Tryz.f184, Tryz.f185, Tryz.f302, Tryz.f186, Tryz.f189, Tryz.f191, Tryz.f303, Tryz.f449, Tryz.f533, Tryz.f70, Tryz.f71, Tryz.f187, Tryz.f72]
theorem cm6 : cg6.map (fun g => Tryz.prog.funcs[g]?) = cf6.map some := by
  unfold cg6 cf6
  simp only [List.map_cons, List.map_nil, Tryz.func295, Tryz.func63, Tryz.func27, Tryz.func64, Tryz.func177, Tryz.func178, Tryz.func298, Tryz.func29, Tryz.func65, Tryz.func180, Tryz.func179, Tryz.func66, Tryz.func67, Tryz.func30, Tryz.func80, Tryz.func28, Tryz.func68, Tryz.func69, Tryz.func181, Tryz.func299, Tryz.func448, Tryz.func532, Tryz.func188, Tryz.func182, Tryz.func300, Tryz.func183, Tryz.func301, Tryz.func184, Tryz.func185, Tryz.func302, Tryz.func186, Tryz.func189, Tryz.func191, Tryz.func303, Tryz.func449, Tryz.func533, Tryz.func70, Tryz.func71, Tryz.func187, Tryz.func72]
def cg7 : List Nat := [73, 190, 74, 192, 75, 76, 193, 77, 78, 79, 195, 194, 304, 31, 81, 196, 305, 197, 82, 198, 83, 84, 200, 306, 450, 199, 10, 32, 85, 86, 87, 88, 89, 201, 307, 451, 308, 309, 202, 311]
noncomputable def cf7 : List Func := [Tryz.f73, Tryz.f190, Tryz.f74, Tryz.f192, Tryz.f75, Tryz.f76, Tryz.f193, Tryz.f77, Tryz.f78, Tryz.f79, Tryz.f195, Tryz.f194, Tryz.f304, Tryz.f31, Tryz.f81, Tryz.f196, Tryz.f305, Tryz.f197, Tryz.f82, Tryz.f198, Tryz.f83, Tryz.f84, Tryz.f200, Tryz.f306, Tryz.f450, Tryz.f199, Tryz.f10, Tryz.f32, Tryz.f85, Tryz.f86, Tryz.f87, Tryz.f88, Tryz.f89, Tryz.f201, Tryz.f307, Tryz.f451, Tryz.f308, Tryz.f309, Tryz.f202, Tryz.f311]
theorem cm7 : cg7.map (fun g => Tryz.prog.funcs[g]?) = cf7.map some := by
  unfold cg7 cf7
  simp only [List.map_cons, List.map_nil, Tryz.func73, Tryz.func190, Tryz.func74, Tryz.func192, Tryz.func75, Tryz.func76, Tryz.func193, Tryz.func77, Tryz.func78, Tryz.func79, Tryz.func195, Tryz.func194, Tryz.func304, Tryz.func31, Tryz.func81, Tryz.func196, Tryz.func305, Tryz.func197, Tryz.func82, Tryz.func198, Tryz.func83, Tryz.func84, Tryz.func200, Tryz.func306, Tryz.func450, Tryz.func199, Tryz.func10, Tryz.func32, Tryz.func85, Tryz.func86, Tryz.func87, Tryz.func88, Tryz.func89, Tryz.func201, Tryz.func307, Tryz.func451, Tryz.func308, Tryz.func309, Tryz.func202, Tryz.func311]
def cg8 : List Nat := [312, 453, 534, 310, 452, 203, 313, 454, 314, 204, 205, 33, 34, 90, 206, 91, 92, 208, 315, 207, 209, 316, 455, 94, 215, 93, 210, 317, 319, 95, 318, 321, 325, 320, 323, 324, 327, 456, 535, 612]
noncomputable def cf8 : List Func := [Tryz.f312, Tryz.f453, Tryz.f534, Tryz.f310, Tryz.f452, Tryz.f203, Tryz.f313, Tryz.f454, Tryz.f314, Tryz.f204, Tryz.f205, Tryz.f33, Tryz.f34, Tryz.f90, Tryz.f206, Tryz.f91, Tryz.f92, Tryz.f208, Tryz.f315, Tryz.f207, Tryz.f209, Tryz.f316, Tryz.f455, Tryz.f94, Tryz.f215, Tryz.f93, Tryz.f210, Tryz.f317, Tryz.f319, Tryz.f95, Tryz.f318, Tryz.f321, Tryz.f325, Tryz.f320, Tryz.f323, Tryz.f324, Tryz.f327, Tryz.f456, Tryz.f535, Tryz.f612]
theorem cm8 : cg8.map (fun g => Tryz.prog.funcs[g]?) = cf8.map some := by
  unfold cg8 cf8
  simp only [List.map_cons, List.map_nil, Tryz.func312, Tryz.func453, Tryz.func534, Tryz.func310, Tryz.func452, Tryz.func203, Tryz.func313, Tryz.func454, Tryz.func314, Tryz.func204, Tryz.func205, Tryz.func33, Tryz.func34, Tryz.func90, Tryz.func206, Tryz.func91, Tryz.func92, Tryz.func208, Tryz.func315, Tryz.func207, Tryz.func209, Tryz.func316, Tryz.func455, Tryz.func94, Tryz.func215, Tryz.func93, Tryz.func210, Tryz.func317, Tryz.func319, Tryz.func95, Tryz.func318, Tryz.func321, Tryz.func325, Tryz.func320, Tryz.func323, Tryz.func324, Tryz.func327, Tryz.func456, Tryz.func535, Tryz.func612]
def cg9 : List Nat := [536, 613, 322, 211, 212, 326, 328, 213, 330, 329, 214, 332, 333, 457, 537, 331, 35, 96, 11, 36, 37, 38, 39, 99, 40, 100, 220, 106, 227, 342, 107, 110, 101, 223, 102, 103, 104, 41, 105, 224]
noncomputable def cf9 : List Func := [Tryz.f536, Tryz.f613, Tryz.f322, Tryz.f211, Tryz.f212, Tryz.f326, Tryz.f328, Tryz.f213, Tryz.f330, Tryz.f329, Tryz.f214, Tryz.f332, Tryz.f333, Tryz.f457, Tryz.f537, Tryz.f331, Tryz.f35, Tryz.f96, Tryz.f11, Tryz.f36, Tryz.f37, Tryz.f38, Tryz.f39, Tryz.f99, Tryz.f40, Tryz.f100, Tryz.f220, Tryz.f106, Tryz.f227, Tryz.f342, Tryz.f107, Tryz.f110, Tryz.f101, Tryz.f223, Tryz.f102, Tryz.f103, Tryz.f104, Tryz.f41, Tryz.f105, Tryz.f224]
theorem cm9 : cg9.map (fun g => Tryz.prog.funcs[g]?) = cf9.map some := by
  unfold cg9 cf9
  simp only [List.map_cons, List.map_nil, Tryz.func536, Tryz.func613, Tryz.func322, Tryz.func211, Tryz.func212, Tryz.func326, Tryz.func328, Tryz.func213, Tryz.func330, Tryz.func329, Tryz.func214, Tryz.func332, Tryz.func333, Tryz.func457, Tryz.func537, Tryz.func331, Tryz.func35, Tryz.func96, Tryz.func11, Tryz.func36, Tryz.func37, Tryz.func38, Tryz.func39, Tryz.func99, Tryz.func40, Tryz.func100, Tryz.func220, Tryz.func106, Tryz.func227, Tryz.func342, Tryz.func107, Tryz.func110, Tryz.func101, Tryz.func223, Tryz.func102, Tryz.func103, Tryz.func104, Tryz.func41, Tryz.func105, Tryz.func224]
def cg10 : List Nat := [225, 341, 340, 226, 108, 109, 12, 42, 43, 111, 112, 228, 343, 229, 344, 463, 464, 542, 544, 543, 616, 675, 676, 677, 547, 617, 618, 619, 678, 620, 473, 554, 629, 621, 622, 623, 474, 624, 625, 352]
noncomputable def cf10 : List Func := [Tryz.f225, Tryz.f341, Tryz.f340, Tryz.f226, Tryz.f108, Tryz.f109, Tryz.f12, Tryz.f42, Tryz.f43, Tryz.f111, Tryz.f112, Tryz.f228, Tryz.f343, Tryz.f229, Tryz.f344, Tryz.f463, Tryz.f464, Tryz.f542, Tryz.f544, Tryz.f543, Tryz.f616, Tryz.f675, Tryz.f676, Tryz.f677, Tryz.f547, Tryz.f617, Tryz.f618, Tryz.f619, Tryz.f678, Tryz.f620, Tryz.f473, Tryz.f554, Tryz.f629, Tryz.f621, Tryz.f622, Tryz.f623, Tryz.f474, Tryz.f624, Tryz.f625, Tryz.f352]
theorem cm10 : cg10.map (fun g => Tryz.prog.funcs[g]?) = cf10.map some := by
  unfold cg10 cf10
  simp only [List.map_cons, List.map_nil, Tryz.func225, Tryz.func341, Tryz.func340, Tryz.func226, Tryz.func108, Tryz.func109, Tryz.func12, Tryz.func42, Tryz.func43, Tryz.func111, Tryz.func112, Tryz.func228, Tryz.func343, Tryz.func229, Tryz.func344, Tryz.func463, Tryz.func464, Tryz.func542, Tryz.func544, Tryz.func543, Tryz.func616, Tryz.func675, Tryz.func676, Tryz.func677, Tryz.func547, Tryz.func617, Tryz.func618, Tryz.func619, Tryz.func678, Tryz.func620, Tryz.func473, Tryz.func554, Tryz.func629, Tryz.func621, Tryz.func622, Tryz.func623, Tryz.func474, Tryz.func624, Tryz.func625, Tryz.func352]
def cg11 : List Nat := [730, 470, 466, 546, 553, 468, 471, 232, 465, 545, 345, 347, 346, 467, 235, 469, 548, 493, 580, 581, 500, 595, 626, 679, 731, 732, 766, 791, 549, 627, 550, 551, 552, 628, 230, 348, 231, 351, 350, 349]
noncomputable def cf11 : List Func := [Tryz.f730, Tryz.f470, Tryz.f466, Tryz.f546, Tryz.f553, Tryz.f468, Tryz.f471, Tryz.f232, Tryz.f465, Tryz.f545, Tryz.f345, Tryz.f347, Tryz.f346, Tryz.f467, Tryz.f235, Tryz.f469, Tryz.f548, Tryz.f493, Tryz.f580, Tryz.f581, Tryz.f500, Tryz.f595, Tryz.f626, Tryz.f679, Tryz.f731, Tryz.f732, Tryz.f766, Tryz.f791, Tryz.f549, Tryz.f627, Tryz.f550, Tryz.f551, Tryz.f552, Tryz.f628, Tryz.f230, Tryz.f348, Tryz.f231, Tryz.f351, Tryz.f350, Tryz.f349]
theorem cm11 : cg11.map (fun g => Tryz.prog.funcs[g]?) = cf11.map some := by
  unfold cg11 cf11
  simp only [List.map_cons, List.map_nil, Tryz.func730, Tryz.func470, Tryz.func466, Tryz.func546, Tryz.func553, Tryz.func468, Tryz.func471, Tryz.func232, Tryz.func465, Tryz.func545, Tryz.func345, Tryz.func347, Tryz.func346, Tryz.func467, Tryz.func235, Tryz.func469, Tryz.func548, Tryz.func493, Tryz.func580, Tryz.func581, Tryz.func500, Tryz.func595, Tryz.func626, Tryz.func679, Tryz.func731, Tryz.func732, Tryz.func766, Tryz.func791, Tryz.func549, Tryz.func627, Tryz.func550, Tryz.func551, Tryz.func552, Tryz.func628, Tryz.func230, Tryz.func348, Tryz.func231, Tryz.func351, Tryz.func350, Tryz.func349]
def cg12 : List Nat := [472, 113, 115, 114, 233, 353, 354, 355, 356, 357, 358, 359, 360, 361, 362, 363, 364, 234, 365, 13, 44, 116, 236, 237, 366, 475, 555, 630, 680, 631, 681, 682, 683, 632, 684, 733, 633, 367, 476, 477]
noncomputable def cf12 : List Func := [Tryz.f472, Tryz.f113, Tryz.f115, Tryz.f114, Tryz.f233, Tryz.f353, Tryz.f354, Tryz.f355, Tryz.f356, Tryz.f357, Tryz.f358, Tryz.f359, Tryz.f360, Tryz.f361, Tryz.f362, Tryz.f363, Tryz.f364, Tryz.f234, Tryz.f365, Tryz.f13, Tryz.f44, Tryz.f116, Tryz.f236, Tryz.f237, Tryz.f366, Tryz.f475, Tryz.f555, Tryz.f630, Tryz.f680, Tryz.f631, Tryz.f681, Tryz.f682, Tryz.f683, Tryz.f632, Tryz.f684, Tryz.f733, Tryz.f633, Tryz.f367, Tryz.f476, Tryz.f477]
theorem cm12 : cg12.map (fun g => Tryz.prog.funcs[g]?) = cf12.map some := by
  unfold cg12 cf12
  simp only [List.map_cons, List.map_nil, Tryz.func472, Tryz.func113, Tryz.func115, Tryz.func114, Tryz.func233, Tryz.func353, Tryz.func354, Tryz.func355, Tryz.func356, Tryz.func357, Tryz.func358, Tryz.func359, Tryz.func360, Tryz.func361, Tryz.func362, Tryz.func363, Tryz.func364, Tryz.func234, Tryz.func365, Tryz.func13, Tryz.func44, Tryz.func116, Tryz.func236, Tryz.func237, Tryz.func366, Tryz.func475, Tryz.func555, Tryz.func630, Tryz.func680, Tryz.func631, Tryz.func681, Tryz.func682, Tryz.func683, Tryz.func632, Tryz.func684, Tryz.func733, Tryz.func633, Tryz.func367, Tryz.func476, Tryz.func477]
def cg13 : List Nat := [556, 482, 478, 557, 479, 558, 559, 480, 560, 634, 685, 686, 687, 599, 664, 710, 750, 773, 774, 665, 711, 712, 713, 751, 714, 561, 636, 637, 688, 689, 734, 767, 735, 385, 501, 596, 658, 704, 659, 660]
noncomputable def cf13 : List Func := [Tryz.f556, Tryz.f482, Tryz.f478, Tryz.f557, Tryz.f479, Tryz.f558, Tryz.f559, Tryz.f480, Tryz.f560, Tryz.f634, Tryz.f685, Tryz.f686, Tryz.f687, Tryz.f599, Tryz.f664, Tryz.f710, Tryz.f750, Tryz.f773, Tryz.f774, Tryz.f665, Tryz.f711, Tryz.f712, Tryz.f713, Tryz.f751, Tryz.f714, Tryz.f561, Tryz.f636, Tryz.f637, Tryz.f688, Tryz.f689, Tryz.f734, Tryz.f767, Tryz.f735, Tryz.f385, Tryz.f501, Tryz.f596, Tryz.f658, Tryz.f704, Tryz.f659, Tryz.f660]
theorem cm13 : cg13.map (fun g => Tryz.prog.funcs[g]?) = cf13.map some := by
  unfold cg13 cf13
  simp only [List.map_cons, List.map_nil, Tryz.func556, Tryz.func482, Tryz.func478, Tryz.func557, Tryz.func479, Tryz.func558, Tryz.func559, Tryz.func480, Tryz.func560, Tryz.func634, Tryz.func685, Tryz.func686, Tryz.func687, Tryz.func599, Tryz.func664, Tryz.func710, Tryz.func750, Tryz.func773, Tryz.func774, Tryz.func665, Tryz.func711, Tryz.func712, Tryz.func713, Tryz.func751, Tryz.func714, Tryz.func561, Tryz.func636, Tryz.func637, Tryz.func688, Tryz.func689, Tryz.func734, Tryz.func767, Tryz.func735, Tryz.func385, Tryz.func501, Tryz.func596, Tryz.func658, Tryz.func704, Tryz.func659, Tryz.func660]
def cg14 : List Nat := [661, 705, 736, 768, 792, 805, 738, 691, 737, 769, 793, 806, 635, 562, 568, 644, 696, 563, 638, 690, 639, 564, 640, 641, 642, 692, 481, 565, 566, 567, 643, 693, 694, 739, 740, 695, 368, 483, 569, 570]
noncomputable def cf14 : List Func := [Tryz.f661, Tryz.f705, Tryz.f736, Tryz.f768, Tryz.f792, Tryz.f805, Tryz.f738, Tryz.f691, Tryz.f737, Tryz.f769, Tryz.f793, Tryz.f806, Tryz.f635, Tryz.f562, Tryz.f568, Tryz.f644, Tryz.f696, Tryz.f563, Tryz.f638, Tryz.f690, Tryz.f639, Tryz.f564, Tryz.f640, Tryz.f641, Tryz.f642, Tryz.f692, Tryz.f481, Tryz.f565, Tryz.f566, Tryz.f567, Tryz.f643, Tryz.f693, Tryz.f694, Tryz.f739, Tryz.f740, Tryz.f695, Tryz.f368, Tryz.f483, Tryz.f569, Tryz.f570]
theorem cm14 : cg14.map (fun g => Tryz.prog.funcs[g]?) = cf14.map some := by
  unfold cg14 cf14
  simp only [List.map_cons, List.map_nil, Tryz.func661, Tryz.func705, Tryz.func736, Tryz.func768, Tryz.func792, Tryz.func805, Tryz.func738, Tryz.func691, Tryz.func737, Tryz.func769, Tryz.func793, Tryz.func806, Tryz.func635, Tryz.func562, Tryz.func568, Tryz.func644, Tryz.func696, Tryz.func563, Tryz.func638, Tryz.func690, Tryz.func639, Tryz.func564, Tryz.func640, Tryz.func641, Tryz.func642, Tryz.func692, Tryz.func481, Tryz.func565, Tryz.func566, Tryz.func567, Tryz.func643, Tryz.func693, Tryz.func694, Tryz.func739, Tryz.func740, Tryz.func695, Tryz.func368, Tryz.func483, Tryz.func569, Tryz.func570]
def cg15 : List Nat := [571, 484, 572, 573, 645, 238, 117, 118, 239, 119, 240, 369, 485, 574, 575, 576, 486, 243, 379, 370, 487, 371, 372, 120, 241, 373, 489, 578, 646, 697, 741, 698, 376, 495, 583, 582, 653, 700, 701, 742]
noncomputable def cf15 : List Func := [Tryz.f571, Tryz.f484, Tryz.f572, Tryz.f573, Tryz.f645, Tryz.f238, Tryz.f117, Tryz.f118, Tryz.f239, Tryz.f119, Tryz.f240, Tryz.f369, Tryz.f485, Tryz.f574, Tryz.f575, Tryz.f576, Tryz.f486, Tryz.f243, Tryz.f379, Tryz.f370, Tryz.f487, Tryz.f371, Tryz.f372, Tryz.f120, Tryz.f241, Tryz.f373, Tryz.f489, Tryz.f578, Tryz.f646, Tryz.f697, Tryz.f741, Tryz.f698, Tryz.f376, Tryz.f495, Tryz.f583, Tryz.f582, Tryz.f653, Tryz.f700, Tryz.f701, Tryz.f742]
theorem cm15 : cg15.map (fun g => Tryz.prog.funcs[g]?) = cf15.map some := by
  unfold cg15 cf15
  simp only [List.map_cons, List.map_nil, Tryz.func571, Tryz.func484, Tryz.func572, Tryz.func573, Tryz.func645, Tryz.func238, Tryz.func117, Tryz.func118, Tryz.func239, Tryz.func119, Tryz.func240, Tryz.func369, Tryz.func485, Tryz.func574, Tryz.func575, Tryz.func576, Tryz.func486, Tryz.func243, Tryz.func379, Tryz.func370, Tryz.func487, Tryz.func371, Tryz.func372, Tryz.func120, Tryz.func241, Tryz.func373, Tryz.func489, Tryz.func578, Tryz.func646, Tryz.func697, Tryz.func741, Tryz.func698, Tryz.func376, Tryz.func495, Tryz.func583, Tryz.func582, Tryz.func653, Tryz.func700, Tryz.func701, Tryz.func742]
def cg16 : List Nat := [770, 584, 654, 702, 743, 744, 496, 586, 585, 699, 647, 648, 649, 650, 651, 652, 490, 579, 491, 492, 374, 375, 494, 121, 242, 377, 497, 587, 513, 588, 655, 589, 590, 656, 657, 703, 591, 592, 593, 594]
noncomputable def cf16 : List Func := [Tryz.f770, Tryz.f584, Tryz.f654, Tryz.f702, Tryz.f743, Tryz.f744, Tryz.f496, Tryz.f586, Tryz.f585, Tryz.f699, Tryz.f647, Tryz.f648, Tryz.f649, Tryz.f650, Tryz.f651, Tryz.f652, Tryz.f490, Tryz.f579, Tryz.f491, Tryz.f492, Tryz.f374, Tryz.f375, Tryz.f494, Tryz.f121, Tryz.f242, Tryz.f377, Tryz.f497, Tryz.f587, Tryz.f513, Tryz.f588, Tryz.f655, Tryz.f589, Tryz.f590, Tryz.f656, Tryz.f657, Tryz.f703, Tryz.f591, Tryz.f592, Tryz.f593, Tryz.f594]
theorem cm16 : cg16.map (fun g => Tryz.prog.funcs[g]?) = cf16.map some := by
  unfold cg16 cf16
  simp only [List.map_cons, List.map_nil, Tryz.func770, Tryz.func584, Tryz.func654, Tryz.func702, Tryz.func743, Tryz.func744, Tryz.func496, Tryz.func586, Tryz.func585, Tryz.func699, Tryz.func647, Tryz.func648, Tryz.func649, Tryz.func650, Tryz.func651, Tryz.func652, Tryz.func490, Tryz.func579, Tryz.func491, Tryz.func492, Tryz.func374, Tryz.func375, Tryz.func494, Tryz.func121, Tryz.func242, Tryz.func377, Tryz.func497, Tryz.func587, Tryz.func513, Tryz.func588, Tryz.func655, Tryz.func589, Tryz.func590, Tryz.func656, Tryz.func657, Tryz.func703, Tryz.func591, Tryz.func592, Tryz.func593, Tryz.func594]
def cg17 : List Nat := [378, 122, 244, 381, 382, 498, 499, 380, 384, 383, 123, 124, 125, 126, 127, 128, 245, 386, 387, 502, 503, 598, 663, 504, 707, 508, 745, 662, 706, 708, 709, 506, 505, 746, 771, 748, 772, 747, 507, 749]
noncomputable def cf17 : List Func := [Tryz.f378, Tryz.f122, Tryz.f244, Tryz.f381, Tryz.f382, Tryz.f498, Tryz.f499, Tryz.f380, Tryz.f384, Tryz.f383, Tryz.f123, Tryz.f124, Tryz.f125, Tryz.f126, Tryz.f127, Tryz.f128, Tryz.f245, Tryz.f386, Tryz.f387, Tryz.f502, Tryz.f503, Tryz.f598, Tryz.f663, Tryz.f504, Tryz.f707, Tryz.f508, Tryz.f745, Tryz.f662, Tryz.f706, Tryz.f708, Tryz.f709, Tryz.f506, Tryz.f505, Tryz.f746, Tryz.f771, Tryz.f748, Tryz.f772, Tryz.f747, Tryz.f507, Tryz.f749]
theorem cm17 : cg17.map (fun g => Tryz.prog.funcs[g]?) = cf17.map some := by
  unfold cg17 cf17
  simp only [List.map_cons, List.map_nil, Tryz.func378, Tryz.func122, Tryz.func244, Tryz.func381, Tryz.func382, Tryz.func498, Tryz.func499, Tryz.func380, Tryz.func384, Tryz.func383, Tryz.func123, Tryz.func124, Tryz.func125, Tryz.func126, Tryz.func127, Tryz.func128, Tryz.func245, Tryz.func386, Tryz.func387, Tryz.func502, Tryz.func503, Tryz.func598, Tryz.func663, Tryz.func504, Tryz.func707, Tryz.func508, Tryz.func745, Tryz.func662, Tryz.func706, Tryz.func708, Tryz.func709, Tryz.func506, Tryz.func505, Tryz.func746, Tryz.func771, Tryz.func748, Tryz.func772, Tryz.func747, Tryz.func507, Tryz.func749]
def cg18 : List Nat := [509, 600, 666, 715, 752, 775, 794, 776, 777, 597, 388, 510, 246, 389, 511, 601, 391, 602, 667, 716, 754, 753, 779, 778, 755, 717, 669, 719, 718, 757, 756, 720, 668, 670, 721, 758, 780, 795, 796, 797]
noncomputable def cf18 : List Func := [Tryz.f509, Tryz.f600, Tryz.f666, Tryz.f715, Tryz.f752, Tryz.f775, Tryz.f794, Tryz.f776, Tryz.f777, Tryz.f597, Tryz.f388, Tryz.f510, Tryz.f246, Tryz.f389, Tryz.f511, Tryz.f601, Tryz.f391, Tryz.f602, Tryz.f667, Tryz.f716, Tryz.f754, Tryz.f753, Tryz.f779, Tryz.f778, Tryz.f755, Tryz.f717, Tryz.f669, Tryz.f719, Tryz.f718, Tryz.f757, Tryz.f756, Tryz.f720, Tryz.f668, Tryz.f670, Tryz.f721, Tryz.f758, Tryz.f780, Tryz.f795, Tryz.f796, Tryz.f797]
theorem cm18 : cg18.map (fun g => Tryz.prog.funcs[g]?) = cf18.map some := by
  unfold cg18 cf18
  simp only [List.map_cons, List.map_nil, Tryz.func509, Tryz.func600, Tryz.func666, Tryz.func715, Tryz.func752, Tryz.func775, Tryz.func794, Tryz.func776, Tryz.func777, Tryz.func597, Tryz.func388, Tryz.func510, Tryz.func246, Tryz.func389, Tryz.func511, Tryz.func601, Tryz.func391, Tryz.func602, Tryz.func667, Tryz.func716, Tryz.func754, Tryz.func753, Tryz.func779, Tryz.func778, Tryz.func755, Tryz.func717, Tryz.func669, Tryz.func719, Tryz.func718, Tryz.func757, Tryz.func756, Tryz.func720, Tryz.func668, Tryz.func670, Tryz.func721, Tryz.func758, Tryz.func780, Tryz.func795, Tryz.func796, Tryz.func797]
def cg19 : List Nat := [798, 799, 781, 782, 783, 784, 800, 801, 802, 803, 804, 785, 786, 787, 725, 788, 759, 760, 761, 762, 671, 722, 764, 763, 790, 789, 765, 724, 723, 726, 603, 672, 392, 393, 514, 390, 512, 394, 395, 129]
noncomputable def cf19 : List Func := [Tryz.f798, Tryz.f799, Tryz.f781, Tryz.f782, Tryz.f783, Tryz.f784, Tryz.f800, Tryz.f801, Tryz.f802, Tryz.f803, Tryz.f804, Tryz.f785, Tryz.f786, Tryz.f787, Tryz.f725, Tryz.f788, Tryz.f759, Tryz.f760, Tryz.f761, Tryz.f762, Tryz.f671, Tryz.f722, Tryz.f764, Tryz.f763, Tryz.f790, Tryz.f789, Tryz.f765, Tryz.f724, Tryz.f723, Tryz.f726, Tryz.f603, Tryz.f672, Tryz.f392, Tryz.f393, Tryz.f514, Tryz.f390, Tryz.f512, Tryz.f394, Tryz.f395, Tryz.f129]
theorem cm19 : cg19.map (fun g => Tryz.prog.funcs[g]?) = cf19.map some := by
  unfold cg19 cf19
  simp only [List.map_cons, List.map_nil, Tryz.func798, Tryz.func799, Tryz.func781, Tryz.func782, Tryz.func783, Tryz.func784, Tryz.func800, Tryz.func801, Tryz.func802, Tryz.func803, Tryz.func804, Tryz.func785, Tryz.func786, Tryz.func787, Tryz.func725, Tryz.func788, Tryz.func759, Tryz.func760, Tryz.func761, Tryz.func762, Tryz.func671, Tryz.func722, Tryz.func764, Tryz.func763, Tryz.func790, Tryz.func789, Tryz.func765, Tryz.func724, Tryz.func723, Tryz.func726, Tryz.func603, Tryz.func672, Tryz.func392, Tryz.func393, Tryz.func514, Tryz.func390, Tryz.func512, Tryz.func394, Tryz.func395, Tryz.func129]
def cg20 : List Nat := [247, 130, 248, 45]
noncomputable def cf20 : List Func := [Tryz.f247, Tryz.f130, Tryz.f248, Tryz.f45]
theorem cm20 : cg20.map (fun g => Tryz.prog.funcs[g]?) = cf20.map some := by
  unfold cg20 cf20
  simp only [List.map_cons, List.map_nil, Tryz.func247, Tryz.func130, Tryz.func248, Tryz.func45]
def cloL : List Nat := cg0 ++ cg1 ++ cg2 ++ cg3 ++ cg4 ++ cg5 ++ cg6 ++ cg7 ++ cg8 ++ cg9 ++ cg10 ++ cg11 ++ cg12 ++ cg13 ++ cg14 ++ cg15 ++ cg16 ++ cg17 ++ cg18 ++ cg19 ++ cg20
noncomputable def cloF : List Func := cf0 ++ cf1 ++ cf2 ++ cf3 ++ cf4 ++ cf5 ++ cf6 ++ cf7 ++ cf8 ++ cf9 ++ cf10 ++ cf11 ++ cf12 ++ cf13 ++ cf14 ++ cf15 ++ cf16 ++ cf17 ++ cf18 ++ cf19 ++ cf20
theorem cloFs : cloL.map (fun g => Tryz.prog.funcs[g]?) = cloF.map some := by
  unfold cloL cloF
  simp only [List.map_append, cm0, cm1, cm2, cm3, cm4, cm5, cm6, cm7, cm8, cm9, cm10, cm11, cm12, cm13, cm14, cm15, cm16, cm17, cm18, cm19, cm20]
theorem filterMap_fns {α : Type} (H : Option Func → Option α) : cloL.filterMap (fun g => H Tryz.prog.funcs[g]?) = cloF.filterMap (fun fn => H (some fn)) := by
  have h : cloL.filterMap (fun g => H Tryz.prog.funcs[g]?) = (cloL.map (fun g => Tryz.prog.funcs[g]?)).filterMap H := by rw [List.filterMap_map]; rfl
  rw [h, cloFs, List.filterMap_map]; rfl
theorem flatMap_fns {α : Type} (H : Option Func → List α) : cloL.flatMap (fun g => H Tryz.prog.funcs[g]?) = cloF.flatMap (fun fn => H (some fn)) := by
  have h : cloL.flatMap (fun g => H Tryz.prog.funcs[g]?) = (cloL.map (fun g => Tryz.prog.funcs[g]?)).flatMap H := by rw [List.flatMap_map]
  rw [h, cloFs, List.flatMap_map]
theorem any_fns (H : Option Func → Bool) : cloL.any (fun g => H Tryz.prog.funcs[g]?) = cloF.any (fun fn => H (some fn)) := by
  have h : cloL.any (fun g => H Tryz.prog.funcs[g]?) = (cloL.map (fun g => Tryz.prog.funcs[g]?)).any H := by rw [List.any_map]; rfl
  rw [h, cloFs, List.any_map]; rfl
set_option maxRecDepth 1000000 in
theorem clo3 : Tryz.prog.closure 3 = cloL := closure_of (n := 20000) (by kernel_rfl)
noncomputable def inPlaceL : List String := cloF.filterMap (fun fn => (some fn).bind fun fn => if fn.ours || fn.body.isNone || fn.name == "runtime.NumGoroutine" then some fn.name else none)
set_option maxRecDepth 1000000 in
theorem inPlaceK : (Rows.topNamesRow.inPlace == inPlaceL) = true := by kernel_rfl
theorem inPlace3 : (Rows.topNamesRow.inPlace == Tryz.prog.inPlace 3) = true := by
  have h : Tryz.prog.inPlace 3 = inPlaceL := by
    unfold Program.inPlace
    rw [clo3]
    exact filterMap_fns (fun o => o.bind fun fn => if fn.ours || fn.body.isNone || fn.name == "runtime.NumGoroutine" then some fn.name else none)
  rw [h]
  exact inPlaceK
theorem any_some {F : Func → Bool} : cloL.any (fun g => (Tryz.prog.funcs[g]?).any F) = cloF.any F := any_fns (fun o => o.any F)
set_option maxRecDepth 1000000 in
theorem unfollowed3 : Tryz.prog.unfollowed 3 = true := by
  unfold Program.unfollowed
  rw [clo3, any_some]
  show List.any cloF _ = true
  kernel_rfl
theorem recurses3 : Tryz.prog.recurses 3 = true := by
  unfold Program.recurses
  rw [unfollowed3, Bool.true_or]
noncomputable def namedL : List String := (((cloF.flatMap fun fn => ((some fn).bind (·.body)).elim [] Code.globalsNamed).eraseDups).filterMap (fun g => (Tryz.prog.globals[g]?).map (·.name)) ++
      cloF.filterMap fun fn => (some fn).bind fun fn => if fn.body.isNone then entryReads.lookup fn.name else none).eraseDups
set_option maxRecDepth 1000000 in
theorem namedK : (Rows.topNamesRow.named == namedL) = true := by kernel_rfl
theorem named3 : (Rows.topNamesRow.named == Tryz.prog.varsNamed 3) = true := by
  have h : Tryz.prog.varsNamed 3 = namedL := by
    unfold Program.varsNamed
    rw [clo3, flatMap_fns (fun o => (o.bind (·.body)).elim [] Code.globalsNamed), filterMap_fns (fun o => o.bind fun fn => if fn.body.isNone then entryReads.lookup fn.name else none)]
    rfl
  rw [h]
  exact namedK
theorem goesBy_of {c : OpenClaim} {P : Program} (hs : c.start = .entering) (hg : P.goesFrom c.func = false) : false = c.goesBy P := by
  unfold OpenClaim.goesBy Program.goesAt
  rw [hs, hg]
  rfl
theorem goesFrom_of {P : Program} {n : String} {f : FuncId} (h : P.funcNamed n = some f) (hg : P.goes f = false) : P.goesFrom n = false := by
  unfold Program.goesFrom
  rw [h]
  exact hg
theorem goes_of {P : Program} {f : FuncId} (h1 : ((P.closure f).any fun g => (P.funcs[g]?).any Func.goes) = false) (h2 : P.funcs.toList.any Func.goes = false) : P.goes f = false := by
  unfold Program.goes
  rw [h1, ← Array.any_toList, h2, Bool.and_false, Bool.or_false]
theorem fnamed : Tryz.prog.funcNamed Rows.topNamesRow.func = some 3 := by kernel_rfl
theorem closGoes : cloF.any Func.goes = false := by kernel_rfl
theorem allGoes : Tryz.prog.funcs.toList.any Func.goes = false := by kernel_rfl
theorem closGoes3 : ((Tryz.prog.closure 3).any fun g => (Tryz.prog.funcs[g]?).any Func.goes) = false := by
  rw [clo3, any_some]
  exact closGoes
theorem goes3 : Tryz.prog.goes 3 = false := goes_of closGoes3 allGoes
theorem goesBy3 : false = Rows.topNamesRow.goesBy Tryz.prog := goesBy_of rfl (goesFrom_of fnamed goes3)
end Go.Proofs.YtdkeobkooiaacaaGreatDoor
