/-
  The table of functions; which of them go by value.
-/
import Derived.Test.YtmnfjejphmmddaaGreatF8
import Derived.Test.YtmnfjejphmmddaaGreatF12
import Derived.Test.YtmnfjejphmmddaaGreatGd
import Derived.KernelRfl
set_option maxRecDepth 100000
namespace Go.Proofs.YtmnfjejphmmddaaGreat
def tabT : List (Nat × QF) := [(8, q8), (29, q29), (31, q31), (42, q42), (43, q43), (44, q44), (45, q45), (46, q46), (47, q47), (48, q48), (49, q49), (50, q50), (51, q51), (52, q52), (53, q53), (86, q86), (87, q87), (100, q100), (101, q101), (102, q102), (103, q103), (104, q104), (105, q105), (106, q106), (107, q107), (108, q108), (109, q109), (110, q110), (111, q111), (112, q112), (113, q113), (114, q114), (183, q183), (184, q184), (185, q185), (229, q229), (230, q230), (231, q231), (321, q321), (322, q322), (323, q323), (324, q324), (325, q325), (326, q326), (370, q370), (371, q371), (372, q372), (12, q12), (70, q70), (71, q71), (72, q72), (73, q73), (74, q74), (117, q117), (121, q121), (148, q148), (155, q155), (156, q156), (157, q157), (158, q158), (159, q159), (160, q160), (161, q161), (188, q188), (232, q232), (248, q248), (249, q249), (252, q252), (339, q339)]
def TT : FuncId → Option QF := lookT tabT
def valT (f : FuncId) : Bool := [8, 12, 70, 71, 72, 73, 74, 117, 121, 159, 161, 232, 29, 31, 42, 43, 44, 45, 46, 47, 48, 49, 50, 51, 52, 53, 86, 87, 108, 111, 112, 113, 114, 183, 184, 185, 230, 231, 321, 322, 323, 324, 325, 326, 370, 371, 372].any fun n => Nat.beq n f
theorem t8 : TT 8 = some q8 := by kernel_rfl
theorem v8 : valT 8 = true := by kernel_rfl
theorem t29 : TT 29 = some q29 := by kernel_rfl
theorem v29 : valT 29 = true := by kernel_rfl
theorem t31 : TT 31 = some q31 := by kernel_rfl
theorem v31 : valT 31 = true := by kernel_rfl
theorem t42 : TT 42 = some q42 := by kernel_rfl
theorem v42 : valT 42 = true := by kernel_rfl
theorem t43 : TT 43 = some q43 := by kernel_rfl
theorem v43 : valT 43 = true := by kernel_rfl
theorem t44 : TT 44 = some q44 := by kernel_rfl
theorem v44 : valT 44 = true := by kernel_rfl
theorem t45 : TT 45 = some q45 := by kernel_rfl
theorem v45 : valT 45 = true := by kernel_rfl
theorem t46 : TT 46 = some q46 := by kernel_rfl
theorem v46 : valT 46 = true := by kernel_rfl
theorem t47 : TT 47 = some q47 := by kernel_rfl
theorem v47 : valT 47 = true := by kernel_rfl
theorem t48 : TT 48 = some q48 := by kernel_rfl
theorem v48 : valT 48 = true := by kernel_rfl
theorem t49 : TT 49 = some q49 := by kernel_rfl
theorem v49 : valT 49 = true := by kernel_rfl
theorem t50 : TT 50 = some q50 := by kernel_rfl
theorem v50 : valT 50 = true := by kernel_rfl
theorem t51 : TT 51 = some q51 := by kernel_rfl
theorem v51 : valT 51 = true := by kernel_rfl
theorem t52 : TT 52 = some q52 := by kernel_rfl
theorem v52 : valT 52 = true := by kernel_rfl
theorem t53 : TT 53 = some q53 := by kernel_rfl
theorem v53 : valT 53 = true := by kernel_rfl
theorem t86 : TT 86 = some q86 := by kernel_rfl
theorem v86 : valT 86 = true := by kernel_rfl
theorem t87 : TT 87 = some q87 := by kernel_rfl
theorem v87 : valT 87 = true := by kernel_rfl
theorem t100 : TT 100 = some q100 := by kernel_rfl
theorem v100 : valT 100 = false := by kernel_rfl
theorem t101 : TT 101 = some q101 := by kernel_rfl
theorem v101 : valT 101 = false := by kernel_rfl
theorem t102 : TT 102 = some q102 := by kernel_rfl
theorem v102 : valT 102 = false := by kernel_rfl
theorem t103 : TT 103 = some q103 := by kernel_rfl
theorem v103 : valT 103 = false := by kernel_rfl
theorem t104 : TT 104 = some q104 := by kernel_rfl
theorem v104 : valT 104 = false := by kernel_rfl
theorem t105 : TT 105 = some q105 := by kernel_rfl
theorem v105 : valT 105 = false := by kernel_rfl
theorem t106 : TT 106 = some q106 := by kernel_rfl
theorem v106 : valT 106 = false := by kernel_rfl
theorem t107 : TT 107 = some q107 := by kernel_rfl
theorem v107 : valT 107 = false := by kernel_rfl
theorem t108 : TT 108 = some q108 := by kernel_rfl
theorem v108 : valT 108 = true := by kernel_rfl
theorem t109 : TT 109 = some q109 := by kernel_rfl
theorem v109 : valT 109 = false := by kernel_rfl
theorem t110 : TT 110 = some q110 := by kernel_rfl
theorem v110 : valT 110 = false := by kernel_rfl
theorem t111 : TT 111 = some q111 := by kernel_rfl
theorem v111 : valT 111 = true := by kernel_rfl
theorem t112 : TT 112 = some q112 := by kernel_rfl
theorem v112 : valT 112 = true := by kernel_rfl
theorem t113 : TT 113 = some q113 := by kernel_rfl
theorem v113 : valT 113 = true := by kernel_rfl
theorem t114 : TT 114 = some q114 := by kernel_rfl
theorem v114 : valT 114 = true := by kernel_rfl
theorem t183 : TT 183 = some q183 := by kernel_rfl
theorem v183 : valT 183 = true := by kernel_rfl
theorem t184 : TT 184 = some q184 := by kernel_rfl
theorem v184 : valT 184 = true := by kernel_rfl
theorem t185 : TT 185 = some q185 := by kernel_rfl
theorem v185 : valT 185 = true := by kernel_rfl
theorem t229 : TT 229 = some q229 := by kernel_rfl
theorem v229 : valT 229 = false := by kernel_rfl
theorem t230 : TT 230 = some q230 := by kernel_rfl
theorem v230 : valT 230 = true := by kernel_rfl
theorem t231 : TT 231 = some q231 := by kernel_rfl
theorem v231 : valT 231 = true := by kernel_rfl
theorem t321 : TT 321 = some q321 := by kernel_rfl
theorem v321 : valT 321 = true := by kernel_rfl
theorem t322 : TT 322 = some q322 := by kernel_rfl
theorem v322 : valT 322 = true := by kernel_rfl
theorem t323 : TT 323 = some q323 := by kernel_rfl
theorem v323 : valT 323 = true := by kernel_rfl
theorem t324 : TT 324 = some q324 := by kernel_rfl
theorem v324 : valT 324 = true := by kernel_rfl
theorem t325 : TT 325 = some q325 := by kernel_rfl
theorem v325 : valT 325 = true := by kernel_rfl
theorem t326 : TT 326 = some q326 := by kernel_rfl
theorem v326 : valT 326 = true := by kernel_rfl
theorem t370 : TT 370 = some q370 := by kernel_rfl
theorem v370 : valT 370 = true := by kernel_rfl
theorem t371 : TT 371 = some q371 := by kernel_rfl
theorem v371 : valT 371 = true := by kernel_rfl
theorem t372 : TT 372 = some q372 := by kernel_rfl
theorem v372 : valT 372 = true := by kernel_rfl
theorem t12 : TT 12 = some q12 := by kernel_rfl
theorem v12 : valT 12 = true := by kernel_rfl
theorem t70 : TT 70 = some q70 := by kernel_rfl
theorem v70 : valT 70 = true := by kernel_rfl
theorem t71 : TT 71 = some q71 := by kernel_rfl
theorem v71 : valT 71 = true := by kernel_rfl
theorem t72 : TT 72 = some q72 := by kernel_rfl
theorem v72 : valT 72 = true := by kernel_rfl
theorem t73 : TT 73 = some q73 := by kernel_rfl
theorem v73 : valT 73 = true := by kernel_rfl
theorem t74 : TT 74 = some q74 := by kernel_rfl
theorem v74 : valT 74 = true := by kernel_rfl
theorem t117 : TT 117 = some q117 := by kernel_rfl
theorem v117 : valT 117 = true := by kernel_rfl
theorem t121 : TT 121 = some q121 := by kernel_rfl
theorem v121 : valT 121 = true := by kernel_rfl
theorem t148 : TT 148 = some q148 := by kernel_rfl
theorem v148 : valT 148 = false := by kernel_rfl
theorem t155 : TT 155 = some q155 := by kernel_rfl
theorem v155 : valT 155 = false := by kernel_rfl
theorem t156 : TT 156 = some q156 := by kernel_rfl
theorem v156 : valT 156 = false := by kernel_rfl
theorem t157 : TT 157 = some q157 := by kernel_rfl
theorem v157 : valT 157 = false := by kernel_rfl
theorem t158 : TT 158 = some q158 := by kernel_rfl
theorem v158 : valT 158 = false := by kernel_rfl
theorem t159 : TT 159 = some q159 := by kernel_rfl
theorem v159 : valT 159 = true := by kernel_rfl
theorem t160 : TT 160 = some q160 := by kernel_rfl
theorem v160 : valT 160 = false := by kernel_rfl
theorem t161 : TT 161 = some q161 := by kernel_rfl
theorem v161 : valT 161 = true := by kernel_rfl
theorem t188 : TT 188 = some q188 := by kernel_rfl
theorem v188 : valT 188 = false := by kernel_rfl
theorem t232 : TT 232 = some q232 := by kernel_rfl
theorem v232 : valT 232 = true := by kernel_rfl
theorem t248 : TT 248 = some q248 := by kernel_rfl
theorem v248 : valT 248 = false := by kernel_rfl
theorem t249 : TT 249 = some q249 := by kernel_rfl
theorem v249 : valT 249 = false := by kernel_rfl
theorem t252 : TT 252 = some q252 := by kernel_rfl
theorem v252 : valT 252 = false := by kernel_rfl
theorem t339 : TT 339 = some q339 := by kernel_rfl
theorem v339 : valT 339 = false := by kernel_rfl
theorem tabT_ok : TabA Tryz.prog TT := lookT_ok (by
  simp only [tabT, List.mem_cons, List.not_mem_nil, or_false]
  rintro p (rfl | rfl | rfl | rfl | rfl | rfl | rfl | rfl | rfl | rfl | rfl | rfl | rfl | rfl | rfl | rfl | rfl | rfl | rfl | rfl | rfl | rfl | rfl | rfl | rfl | rfl | rfl | rfl | rfl | rfl | rfl | rfl | rfl | rfl | rfl | rfl | rfl | rfl | rfl | rfl | rfl | rfl | rfl | rfl | rfl | rfl | rfl | rfl | rfl | rfl | rfl | rfl | rfl | rfl | rfl | rfl | rfl | rfl | rfl | rfl | rfl | rfl | rfl | rfl | rfl | rfl | rfl | rfl | rfl)
  · exact ok8
  · exact ok29
  · exact ok31
  · exact ok42
  · exact ok43
  · exact ok44
  · exact ok45
  · exact ok46
  · exact ok47
  · exact ok48
  · exact ok49
  · exact ok50
  · exact ok51
  · exact ok52
  · exact ok53
  · exact ok86
  · exact ok87
  · exact ok100
  · exact ok101
  · exact ok102
  · exact ok103
  · exact ok104
  · exact ok105
  · exact ok106
  · exact ok107
  · exact ok108
  · exact ok109
  · exact ok110
  · exact ok111
  · exact ok112
  · exact ok113
  · exact ok114
  · exact ok183
  · exact ok184
  · exact ok185
  · exact ok229
  · exact ok230
  · exact ok231
  · exact ok321
  · exact ok322
  · exact ok323
  · exact ok324
  · exact ok325
  · exact ok326
  · exact ok370
  · exact ok371
  · exact ok372
  · exact ok12
  · exact ok70
  · exact ok71
  · exact ok72
  · exact ok73
  · exact ok74
  · exact ok117
  · exact ok121
  · exact ok148
  · exact ok155
  · exact ok156
  · exact ok157
  · exact ok158
  · exact ok159
  · exact ok160
  · exact ok161
  · exact ok188
  · exact ok232
  · exact ok248
  · exact ok249
  · exact ok252
  · exact ok339)
end Go.Proofs.YtmnfjejphmmddaaGreat
