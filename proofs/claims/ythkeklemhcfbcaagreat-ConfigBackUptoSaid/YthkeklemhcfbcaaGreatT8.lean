/- The table of functions; which of them go by value. -/
import Derived.Test.YthkeklemhcfbcaaGreatF8
import Derived.Test.YthkeklemhcfbcaaGreatF7
import Derived.Test.YthkeklemhcfbcaaGreatF6
import Derived.Test.YthkeklemhcfbcaaGreatGd
import Derived.KernelRfl
set_option maxRecDepth 100000
namespace Go.Proofs.YthkeklemhcfbcaaGreat
def tabT:List (Nat × QF):=[(4,q31),(8,q41),(10,q87),(32,q92),(33,q93),(31,q94),(45,q103),(47,q108),(48,q109),(39,q185),(81,q191),(84,q193),(87,q196),(91,q200),(92,q201),(96,q205),(68,q207),(69,q208),(70,q209),(71,q210),(72,q211),(63,q212),(64,q213),(65,q214),(66,q215),(67,q216),(98,q229),(145,q239),(60,q263),(140,q292),(113,q298),(114,q299),(115,q300),(116,q301),(117,q302),(118,q303),(119,q304),(106,q305),(120,q306),(121,q307),(122,q308),(123,q309),(124,q310),(109,q311),(110,q312),(111,q313),(112,q314),(152,q338),(187,q339),(172,q340),(107,q341),(108,q342),(99,q363),(166,q364),(167,q365),(168,q366),(169,q367),(170,q368),(171,q369),(158,q380),(159,q381),(160,q382),(161,q383),(162,q384),(164,q386),(165,q387),(209,q427),(210,q428),(211,q429),(212,q430),(213,q431),(214,q432),(215,q433),(194,q435),(195,q436),(196,q437),(197,q438),(198,q439),(199,q440),(200,q441),(201,q442),(204,q444),(206,q446),(207,q447),(208,q448),(261,q463),(262,q464),(248,q465),(249,q466),(250,q467),(251,q468),(252,q469),(253,q470),(254,q471),(255,q472),(257,q474),(258,q475),(259,q476),(260,q477),(282,q483),(283,q484),(284,q485),(285,q486),(286,q487),(296,q497),(303,q498)]
def TT:FuncId -> Option QF:=lookT tabT
def valT (f:FuncId):Bool:=[4,8,10,32,33,31,47,39,81,84,91,96,68,69,70,71,72,66,60,113,114,115,119,106,120,122,124,152,107,108,99,160,161,162,164,165,197,198,199,204,208,251,254,260,285].any fun n=>Nat.beq n f
theorem t31:TT 4 = some q31:=by kernel_rfl
theorem v31:valT 4 = true:=by kernel_rfl
theorem t41:TT 8 = some q41:=by kernel_rfl
theorem v41:valT 8 = true:=by kernel_rfl
theorem t87:TT 10 = some q87:=by kernel_rfl
theorem v87:valT 10 = true:=by kernel_rfl
theorem t92:TT 32 = some q92:=by kernel_rfl
theorem v92:valT 32 = true:=by kernel_rfl
theorem t93:TT 33 = some q93:=by kernel_rfl
theorem v93:valT 33 = true:=by kernel_rfl
theorem t94:TT 31 = some q94:=by kernel_rfl
theorem v94:valT 31 = true:=by kernel_rfl
theorem t103:TT 45 = some q103:=by kernel_rfl
theorem v103:valT 45 = false:=by kernel_rfl
theorem t108:TT 47 = some q108:=by kernel_rfl
theorem v108:valT 47 = true:=by kernel_rfl
theorem t109:TT 48 = some q109:=by kernel_rfl
theorem v109:valT 48 = false:=by kernel_rfl
theorem t185:TT 39 = some q185:=by kernel_rfl
theorem v185:valT 39 = true:=by kernel_rfl
theorem t191:TT 81 = some q191:=by kernel_rfl
theorem v191:valT 81 = true:=by kernel_rfl
theorem t193:TT 84 = some q193:=by kernel_rfl
theorem v193:valT 84 = true:=by kernel_rfl
theorem t196:TT 87 = some q196:=by kernel_rfl
theorem v196:valT 87 = false:=by kernel_rfl
theorem t200:TT 91 = some q200:=by kernel_rfl
theorem v200:valT 91 = true:=by kernel_rfl
theorem t201:TT 92 = some q201:=by kernel_rfl
theorem v201:valT 92 = false:=by kernel_rfl
theorem t205:TT 96 = some q205:=by kernel_rfl
theorem v205:valT 96 = true:=by kernel_rfl
theorem t207:TT 68 = some q207:=by kernel_rfl
theorem v207:valT 68 = true:=by kernel_rfl
theorem t208:TT 69 = some q208:=by kernel_rfl
theorem v208:valT 69 = true:=by kernel_rfl
theorem t209:TT 70 = some q209:=by kernel_rfl
theorem v209:valT 70 = true:=by kernel_rfl
theorem t210:TT 71 = some q210:=by kernel_rfl
theorem v210:valT 71 = true:=by kernel_rfl
theorem t211:TT 72 = some q211:=by kernel_rfl
theorem v211:valT 72 = true:=by kernel_rfl
theorem t212:TT 63 = some q212:=by kernel_rfl
theorem v212:valT 63 = false:=by kernel_rfl
theorem t213:TT 64 = some q213:=by kernel_rfl
theorem v213:valT 64 = false:=by kernel_rfl
theorem t214:TT 65 = some q214:=by kernel_rfl
theorem v214:valT 65 = false:=by kernel_rfl
theorem t215:TT 66 = some q215:=by kernel_rfl
theorem v215:valT 66 = true:=by kernel_rfl
theorem t216:TT 67 = some q216:=by kernel_rfl
theorem v216:valT 67 = false:=by kernel_rfl
theorem t229:TT 98 = some q229:=by kernel_rfl
theorem v229:valT 98 = false:=by kernel_rfl
theorem t239:TT 145 = some q239:=by kernel_rfl
theorem v239:valT 145 = false:=by kernel_rfl
theorem t263:TT 60 = some q263:=by kernel_rfl
theorem v263:valT 60 = true:=by kernel_rfl
theorem t292:TT 140 = some q292:=by kernel_rfl
theorem v292:valT 140 = false:=by kernel_rfl
theorem t298:TT 113 = some q298:=by kernel_rfl
theorem v298:valT 113 = true:=by kernel_rfl
theorem t299:TT 114 = some q299:=by kernel_rfl
theorem v299:valT 114 = true:=by kernel_rfl
theorem t300:TT 115 = some q300:=by kernel_rfl
theorem v300:valT 115 = true:=by kernel_rfl
theorem t301:TT 116 = some q301:=by kernel_rfl
theorem v301:valT 116 = false:=by kernel_rfl
theorem t302:TT 117 = some q302:=by kernel_rfl
theorem v302:valT 117 = false:=by kernel_rfl
theorem t303:TT 118 = some q303:=by kernel_rfl
theorem v303:valT 118 = false:=by kernel_rfl
theorem t304:TT 119 = some q304:=by kernel_rfl
theorem v304:valT 119 = true:=by kernel_rfl
theorem t305:TT 106 = some q305:=by kernel_rfl
theorem v305:valT 106 = true:=by kernel_rfl
theorem t306:TT 120 = some q306:=by kernel_rfl
theorem v306:valT 120 = true:=by kernel_rfl
theorem t307:TT 121 = some q307:=by kernel_rfl
theorem v307:valT 121 = false:=by kernel_rfl
theorem t308:TT 122 = some q308:=by kernel_rfl
theorem v308:valT 122 = true:=by kernel_rfl
theorem t309:TT 123 = some q309:=by kernel_rfl
theorem v309:valT 123 = false:=by kernel_rfl
theorem t310:TT 124 = some q310:=by kernel_rfl
theorem v310:valT 124 = true:=by kernel_rfl
theorem t311:TT 109 = some q311:=by kernel_rfl
theorem v311:valT 109 = false:=by kernel_rfl
theorem t312:TT 110 = some q312:=by kernel_rfl
theorem v312:valT 110 = false:=by kernel_rfl
theorem t313:TT 111 = some q313:=by kernel_rfl
theorem v313:valT 111 = false:=by kernel_rfl
theorem t314:TT 112 = some q314:=by kernel_rfl
theorem v314:valT 112 = false:=by kernel_rfl
theorem t338:TT 152 = some q338:=by kernel_rfl
theorem v338:valT 152 = true:=by kernel_rfl
theorem t339:TT 187 = some q339:=by kernel_rfl
theorem v339:valT 187 = false:=by kernel_rfl
theorem t340:TT 172 = some q340:=by kernel_rfl
theorem v340:valT 172 = false:=by kernel_rfl
theorem t341:TT 107 = some q341:=by kernel_rfl
theorem v341:valT 107 = true:=by kernel_rfl
theorem t342:TT 108 = some q342:=by kernel_rfl
theorem v342:valT 108 = true:=by kernel_rfl
theorem t363:TT 99 = some q363:=by kernel_rfl
theorem v363:valT 99 = true:=by kernel_rfl
theorem t364:TT 166 = some q364:=by kernel_rfl
theorem v364:valT 166 = false:=by kernel_rfl
theorem t365:TT 167 = some q365:=by kernel_rfl
theorem v365:valT 167 = false:=by kernel_rfl
theorem t366:TT 168 = some q366:=by kernel_rfl
theorem v366:valT 168 = false:=by kernel_rfl
theorem t367:TT 169 = some q367:=by kernel_rfl
theorem v367:valT 169 = false:=by kernel_rfl
theorem t368:TT 170 = some q368:=by kernel_rfl
theorem v368:valT 170 = false:=by kernel_rfl
theorem t369:TT 171 = some q369:=by kernel_rfl
theorem v369:valT 171 = false:=by kernel_rfl
theorem t380:TT 158 = some q380:=by kernel_rfl
theorem v380:valT 158 = false:=by kernel_rfl
theorem t381:TT 159 = some q381:=by kernel_rfl
theorem v381:valT 159 = false:=by kernel_rfl
theorem t382:TT 160 = some q382:=by kernel_rfl
theorem v382:valT 160 = true:=by kernel_rfl
theorem t383:TT 161 = some q383:=by kernel_rfl
theorem v383:valT 161 = true:=by kernel_rfl
theorem t384:TT 162 = some q384:=by kernel_rfl
theorem v384:valT 162 = true:=by kernel_rfl
theorem t386:TT 164 = some q386:=by kernel_rfl
theorem v386:valT 164 = true:=by kernel_rfl
theorem t387:TT 165 = some q387:=by kernel_rfl
theorem v387:valT 165 = true:=by kernel_rfl
theorem t427:TT 209 = some q427:=by kernel_rfl
theorem v427:valT 209 = false:=by kernel_rfl
theorem t428:TT 210 = some q428:=by kernel_rfl
theorem v428:valT 210 = false:=by kernel_rfl
theorem t429:TT 211 = some q429:=by kernel_rfl
theorem v429:valT 211 = false:=by kernel_rfl
theorem t430:TT 212 = some q430:=by kernel_rfl
theorem v430:valT 212 = false:=by kernel_rfl
theorem t431:TT 213 = some q431:=by kernel_rfl
theorem v431:valT 213 = false:=by kernel_rfl
theorem t432:TT 214 = some q432:=by kernel_rfl
theorem v432:valT 214 = false:=by kernel_rfl
theorem t433:TT 215 = some q433:=by kernel_rfl
theorem v433:valT 215 = false:=by kernel_rfl
theorem t435:TT 194 = some q435:=by kernel_rfl
theorem v435:valT 194 = false:=by kernel_rfl
theorem t436:TT 195 = some q436:=by kernel_rfl
theorem v436:valT 195 = false:=by kernel_rfl
theorem t437:TT 196 = some q437:=by kernel_rfl
theorem v437:valT 196 = false:=by kernel_rfl
theorem t438:TT 197 = some q438:=by kernel_rfl
theorem v438:valT 197 = true:=by kernel_rfl
theorem t439:TT 198 = some q439:=by kernel_rfl
theorem v439:valT 198 = true:=by kernel_rfl
theorem t440:TT 199 = some q440:=by kernel_rfl
theorem v440:valT 199 = true:=by kernel_rfl
theorem t441:TT 200 = some q441:=by kernel_rfl
theorem v441:valT 200 = false:=by kernel_rfl
theorem t442:TT 201 = some q442:=by kernel_rfl
theorem v442:valT 201 = false:=by kernel_rfl
theorem t444:TT 204 = some q444:=by kernel_rfl
theorem v444:valT 204 = true:=by kernel_rfl
theorem t446:TT 206 = some q446:=by kernel_rfl
theorem v446:valT 206 = false:=by kernel_rfl
theorem t447:TT 207 = some q447:=by kernel_rfl
theorem v447:valT 207 = false:=by kernel_rfl
theorem t448:TT 208 = some q448:=by kernel_rfl
theorem v448:valT 208 = true:=by kernel_rfl
theorem t463:TT 261 = some q463:=by kernel_rfl
theorem v463:valT 261 = false:=by kernel_rfl
theorem t464:TT 262 = some q464:=by kernel_rfl
theorem v464:valT 262 = false:=by kernel_rfl
theorem t465:TT 248 = some q465:=by kernel_rfl
theorem v465:valT 248 = false:=by kernel_rfl
theorem t466:TT 249 = some q466:=by kernel_rfl
theorem v466:valT 249 = false:=by kernel_rfl
theorem t467:TT 250 = some q467:=by kernel_rfl
theorem v467:valT 250 = false:=by kernel_rfl
theorem t468:TT 251 = some q468:=by kernel_rfl
theorem v468:valT 251 = true:=by kernel_rfl
theorem t469:TT 252 = some q469:=by kernel_rfl
theorem v469:valT 252 = false:=by kernel_rfl
theorem t470:TT 253 = some q470:=by kernel_rfl
theorem v470:valT 253 = false:=by kernel_rfl
theorem t471:TT 254 = some q471:=by kernel_rfl
theorem v471:valT 254 = true:=by kernel_rfl
theorem t472:TT 255 = some q472:=by kernel_rfl
theorem v472:valT 255 = false:=by kernel_rfl
theorem t474:TT 257 = some q474:=by kernel_rfl
theorem v474:valT 257 = false:=by kernel_rfl
theorem t475:TT 258 = some q475:=by kernel_rfl
theorem v475:valT 258 = false:=by kernel_rfl
theorem t476:TT 259 = some q476:=by kernel_rfl
theorem v476:valT 259 = false:=by kernel_rfl
theorem t477:TT 260 = some q477:=by kernel_rfl
theorem v477:valT 260 = true:=by kernel_rfl
theorem t483:TT 282 = some q483:=by kernel_rfl
theorem v483:valT 282 = false:=by kernel_rfl
theorem t484:TT 283 = some q484:=by kernel_rfl
theorem v484:valT 283 = false:=by kernel_rfl
theorem t485:TT 284 = some q485:=by kernel_rfl
theorem v485:valT 284 = false:=by kernel_rfl
theorem t486:TT 285 = some q486:=by kernel_rfl
theorem v486:valT 285 = true:=by kernel_rfl
theorem t487:TT 286 = some q487:=by kernel_rfl
theorem v487:valT 286 = false:=by kernel_rfl
theorem t497:TT 296 = some q497:=by kernel_rfl
theorem v497:valT 296 = false:=by kernel_rfl
theorem t498:TT 303 = some q498:=by kernel_rfl
theorem v498:valT 303 = false:=by kernel_rfl
theorem tabT_ok:TabA Tryz.prog TT:=lookT_ok (by
 simp only [tabT,List.mem_cons,List.not_mem_nil,or_false]
 rintro p (rfl | rfl | rfl | rfl | rfl | rfl | rfl | rfl | rfl | rfl | rfl | rfl | rfl | rfl | rfl | rfl | rfl | rfl | rfl | rfl | rfl | rfl | rfl | rfl | rfl | rfl | rfl | rfl | rfl | rfl | rfl | rfl | rfl | rfl | rfl | rfl | rfl | rfl | rfl | rfl | rfl | rfl | rfl | rfl | rfl | rfl | rfl | rfl | rfl | rfl | rfl | rfl | rfl | rfl | rfl | rfl | rfl | rfl | rfl | rfl | rfl | rfl | rfl | rfl | rfl | rfl | rfl | rfl | rfl | rfl | rfl | rfl | rfl | rfl | rfl | rfl | rfl | rfl | rfl | rfl | rfl | rfl | rfl | rfl | rfl | rfl | rfl | rfl | rfl | rfl | rfl | rfl | rfl | rfl | rfl | rfl | rfl | rfl | rfl | rfl | rfl | rfl | rfl | rfl | rfl | rfl)
 · exact ok31
 · exact ok41
 · exact ok87
 · exact ok92
 · exact ok93
 · exact ok94
 · exact ok103
 · exact ok108
 · exact ok109
 · exact ok185
 · exact ok191
 · exact ok193
 · exact ok196
 · exact ok200
 · exact ok201
 · exact ok205
 · exact ok207
 · exact ok208
 · exact ok209
 · exact ok210
 · exact ok211
 · exact ok212
 · exact ok213
 · exact ok214
 · exact ok215
 · exact ok216
 · exact ok229
 · exact ok239
 · exact ok263
 · exact ok292
 · exact ok298
 · exact ok299
 · exact ok300
 · exact ok301
 · exact ok302
 · exact ok303
 · exact ok304
 · exact ok305
 · exact ok306
 · exact ok307
 · exact ok308
 · exact ok309
 · exact ok310
 · exact ok311
 · exact ok312
 · exact ok313
 · exact ok314
 · exact ok338
 · exact ok339
 · exact ok340
 · exact ok341
 · exact ok342
 · exact ok363
 · exact ok364
 · exact ok365
 · exact ok366
 · exact ok367
 · exact ok368
 · exact ok369
 · exact ok380
 · exact ok381
 · exact ok382
 · exact ok383
 · exact ok384
 · exact ok386
 · exact ok387
 · exact ok427
 · exact ok428
 · exact ok429
 · exact ok430
 · exact ok431
 · exact ok432
 · exact ok433
 · exact ok435
 · exact ok436
 · exact ok437
 · exact ok438
 · exact ok439
 · exact ok440
 · exact ok441
 · exact ok442
 · exact ok444
 · exact ok446
 · exact ok447
 · exact ok448
 · exact ok463
 · exact ok464
 · exact ok465
 · exact ok466
 · exact ok467
 · exact ok468
 · exact ok469
 · exact ok470
 · exact ok471
 · exact ok472
 · exact ok474
 · exact ok475
 · exact ok476
 · exact ok477
 · exact ok483
 · exact ok484
 · exact ok485
 · exact ok486
 · exact ok487
 · exact ok497
 · exact ok498)
end Go.Proofs.YthkeklemhcfbcaaGreat
