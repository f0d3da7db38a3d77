/- The table of functions; which of them go by value. -/
import Derived.Test.YtmnfjejphmmddaaGreatF8
import Derived.Test.YtmnfjejphmmddaaGreatF7
import Derived.Test.YtmnfjejphmmddaaGreatF6
import Derived.Test.YtmnfjejphmmddaaGreatGd
import Derived.KernelRfl
set_option maxRecDepth 100000
namespace Go.Proofs.YtmnfjejphmmddaaGreat
def tabT:List (Nat × QF):=[(31,q31),(41,q41),(43,q43),(44,q44),(45,q45),(50,q50),(52,q52),(71,q71),(73,q73),(87,q87),(92,q92),(93,q93),(94,q94),(100,q100),(102,q102),(103,q103),(104,q104),(105,q105),(106,q106),(107,q107),(108,q108),(109,q109),(110,q110),(113,q113),(114,q114),(117,q117),(148,q148),(155,q155),(156,q156),(157,q157),(158,q158),(159,q159),(160,q160),(185,q185),(188,q188),(191,q191),(193,q193),(196,q196),(200,q200),(201,q201),(205,q205),(207,q207),(208,q208),(209,q209),(210,q210),(211,q211),(212,q212),(213,q213),(214,q214),(215,q215),(216,q216),(229,q229),(230,q230),(231,q231),(232,q232),(239,q239),(241,q241),(248,q248),(249,q249),(252,q252),(263,q263),(292,q292),(298,q298),(299,q299),(300,q300),(301,q301),(302,q302),(303,q303),(304,q304),(305,q305),(306,q306),(307,q307),(308,q308),(309,q309),(310,q310),(311,q311),(312,q312),(313,q313),(314,q314),(321,q321),(322,q322),(323,q323),(324,q324),(325,q325),(326,q326),(338,q338),(339,q339),(340,q340),(341,q341),(342,q342),(363,q363),(364,q364),(365,q365),(366,q366),(367,q367),(368,q368),(369,q369),(370,q370),(371,q371),(372,q372),(380,q380),(381,q381),(382,q382),(383,q383),(384,q384),(386,q386),(387,q387),(427,q427),(428,q428),(429,q429),(430,q430),(431,q431),(432,q432),(433,q433),(435,q435),(436,q436),(437,q437),(438,q438),(439,q439),(440,q440),(441,q441),(442,q442),(444,q444),(446,q446),(447,q447),(448,q448),(463,q463),(464,q464),(465,q465),(466,q466),(467,q467),(468,q468),(469,q469),(470,q470),(471,q471),(472,q472),(474,q474),(475,q475),(476,q476),(477,q477),(483,q483),(484,q484),(485,q485),(486,q486),(487,q487),(497,q497),(498,q498)]
def TT:FuncId -> Option QF:=lookT tabT
def valT (f:FuncId):Bool:=[41,92,93,94,207,208,209,210,211,298,299,304,305,440,471,448,477,486,468,438,341,382,384,386,439,444,383,387,342,263,215,363,338,241,300,306,308,310,191,193,200,205,71,73,117,159,232,31,43,44,45,50,52,87,108,113,114,185,230,231,321,322,323,324,325,326,370,371,372].any fun n=>Nat.beq n f
theorem t31:TT 31 = some q31:=by kernel_rfl
theorem v31:valT 31 = true:=by kernel_rfl
theorem t41:TT 41 = some q41:=by kernel_rfl
theorem v41:valT 41 = true:=by kernel_rfl
theorem t43:TT 43 = some q43:=by kernel_rfl
theorem v43:valT 43 = true:=by kernel_rfl
theorem t44:TT 44 = some q44:=by kernel_rfl
theorem v44:valT 44 = true:=by kernel_rfl
theorem t45:TT 45 = some q45:=by kernel_rfl
theorem v45:valT 45 = true:=by kernel_rfl
theorem t50:TT 50 = some q50:=by kernel_rfl
theorem v50:valT 50 = true:=by kernel_rfl
theorem t52:TT 52 = some q52:=by kernel_rfl
theorem v52:valT 52 = true:=by kernel_rfl
theorem t71:TT 71 = some q71:=by kernel_rfl
theorem v71:valT 71 = true:=by kernel_rfl
theorem t73:TT 73 = some q73:=by kernel_rfl
theorem v73:valT 73 = true:=by kernel_rfl
theorem t87:TT 87 = some q87:=by kernel_rfl
theorem v87:valT 87 = true:=by kernel_rfl
theorem t92:TT 92 = some q92:=by kernel_rfl
theorem v92:valT 92 = true:=by kernel_rfl
theorem t93:TT 93 = some q93:=by kernel_rfl
theorem v93:valT 93 = true:=by kernel_rfl
theorem t94:TT 94 = some q94:=by kernel_rfl
theorem v94:valT 94 = true:=by kernel_rfl
theorem t100:TT 100 = some q100:=by kernel_rfl
theorem v100:valT 100 = false:=by kernel_rfl
theorem t102:TT 102 = some q102:=by kernel_rfl
theorem v102:valT 102 = false:=by kernel_rfl
theorem t103:TT 103 = some q103:=by kernel_rfl
theorem v103:valT 103 = false:=by kernel_rfl
theorem t104:TT 104 = some q104:=by kernel_rfl
theorem v104:valT 104 = false:=by kernel_rfl
theorem t105:TT 105 = some q105:=by kernel_rfl
theorem v105:valT 105 = false:=by kernel_rfl
theorem t106:TT 106 = some q106:=by kernel_rfl
theorem v106:valT 106 = false:=by kernel_rfl
theorem t107:TT 107 = some q107:=by kernel_rfl
theorem v107:valT 107 = false:=by kernel_rfl
theorem t108:TT 108 = some q108:=by kernel_rfl
theorem v108:valT 108 = true:=by kernel_rfl
theorem t109:TT 109 = some q109:=by kernel_rfl
theorem v109:valT 109 = false:=by kernel_rfl
theorem t110:TT 110 = some q110:=by kernel_rfl
theorem v110:valT 110 = false:=by kernel_rfl
theorem t113:TT 113 = some q113:=by kernel_rfl
theorem v113:valT 113 = true:=by kernel_rfl
theorem t114:TT 114 = some q114:=by kernel_rfl
theorem v114:valT 114 = true:=by kernel_rfl
theorem t117:TT 117 = some q117:=by kernel_rfl
theorem v117:valT 117 = true:=by kernel_rfl
theorem t148:TT 148 = some q148:=by kernel_rfl
theorem v148:valT 148 = false:=by kernel_rfl
theorem t155:TT 155 = some q155:=by kernel_rfl
theorem v155:valT 155 = false:=by kernel_rfl
theorem t156:TT 156 = some q156:=by kernel_rfl
theorem v156:valT 156 = false:=by kernel_rfl
theorem t157:TT 157 = some q157:=by kernel_rfl
theorem v157:valT 157 = false:=by kernel_rfl
theorem t158:TT 158 = some q158:=by kernel_rfl
theorem v158:valT 158 = false:=by kernel_rfl
theorem t159:TT 159 = some q159:=by kernel_rfl
theorem v159:valT 159 = true:=by kernel_rfl
theorem t160:TT 160 = some q160:=by kernel_rfl
theorem v160:valT 160 = false:=by kernel_rfl
theorem t185:TT 185 = some q185:=by kernel_rfl
theorem v185:valT 185 = true:=by kernel_rfl
theorem t188:TT 188 = some q188:=by kernel_rfl
theorem v188:valT 188 = false:=by kernel_rfl
theorem t191:TT 191 = some q191:=by kernel_rfl
theorem v191:valT 191 = true:=by kernel_rfl
theorem t193:TT 193 = some q193:=by kernel_rfl
theorem v193:valT 193 = true:=by kernel_rfl
theorem t196:TT 196 = some q196:=by kernel_rfl
theorem v196:valT 196 = false:=by kernel_rfl
theorem t200:TT 200 = some q200:=by kernel_rfl
theorem v200:valT 200 = true:=by kernel_rfl
theorem t201:TT 201 = some q201:=by kernel_rfl
theorem v201:valT 201 = false:=by kernel_rfl
theorem t205:TT 205 = some q205:=by kernel_rfl
theorem v205:valT 205 = true:=by kernel_rfl
theorem t207:TT 207 = some q207:=by kernel_rfl
theorem v207:valT 207 = true:=by kernel_rfl
theorem t208:TT 208 = some q208:=by kernel_rfl
theorem v208:valT 208 = true:=by kernel_rfl
theorem t209:TT 209 = some q209:=by kernel_rfl
theorem v209:valT 209 = true:=by kernel_rfl
theorem t210:TT 210 = some q210:=by kernel_rfl
theorem v210:valT 210 = true:=by kernel_rfl
theorem t211:TT 211 = some q211:=by kernel_rfl
theorem v211:valT 211 = true:=by kernel_rfl
theorem t212:TT 212 = some q212:=by kernel_rfl
theorem v212:valT 212 = false:=by kernel_rfl
theorem t213:TT 213 = some q213:=by kernel_rfl
theorem v213:valT 213 = false:=by kernel_rfl
theorem t214:TT 214 = some q214:=by kernel_rfl
theorem v214:valT 214 = false:=by kernel_rfl
theorem t215:TT 215 = some q215:=by kernel_rfl
theorem v215:valT 215 = true:=by kernel_rfl
theorem t216:TT 216 = some q216:=by kernel_rfl
theorem v216:valT 216 = false:=by kernel_rfl
theorem t229:TT 229 = some q229:=by kernel_rfl
theorem v229:valT 229 = false:=by kernel_rfl
theorem t230:TT 230 = some q230:=by kernel_rfl
theorem v230:valT 230 = true:=by kernel_rfl
theorem t231:TT 231 = some q231:=by kernel_rfl
theorem v231:valT 231 = true:=by kernel_rfl
theorem t232:TT 232 = some q232:=by kernel_rfl
theorem v232:valT 232 = true:=by kernel_rfl
theorem t239:TT 239 = some q239:=by kernel_rfl
theorem v239:valT 239 = false:=by kernel_rfl
theorem t241:TT 241 = some q241:=by kernel_rfl
theorem v241:valT 241 = true:=by kernel_rfl
theorem t248:TT 248 = some q248:=by kernel_rfl
theorem v248:valT 248 = false:=by kernel_rfl
theorem t249:TT 249 = some q249:=by kernel_rfl
theorem v249:valT 249 = false:=by kernel_rfl
theorem t252:TT 252 = some q252:=by kernel_rfl
theorem v252:valT 252 = false:=by kernel_rfl
theorem t263:TT 263 = some q263:=by kernel_rfl
theorem v263:valT 263 = true:=by kernel_rfl
theorem t292:TT 292 = some q292:=by kernel_rfl
theorem v292:valT 292 = false:=by kernel_rfl
theorem t298:TT 298 = some q298:=by kernel_rfl
theorem v298:valT 298 = true:=by kernel_rfl
theorem t299:TT 299 = some q299:=by kernel_rfl
theorem v299:valT 299 = true:=by kernel_rfl
theorem t300:TT 300 = some q300:=by kernel_rfl
theorem v300:valT 300 = true:=by kernel_rfl
theorem t301:TT 301 = some q301:=by kernel_rfl
theorem v301:valT 301 = false:=by kernel_rfl
theorem t302:TT 302 = some q302:=by kernel_rfl
theorem v302:valT 302 = false:=by kernel_rfl
theorem t303:TT 303 = some q303:=by kernel_rfl
theorem v303:valT 303 = false:=by kernel_rfl
theorem t304:TT 304 = some q304:=by kernel_rfl
theorem v304:valT 304 = true:=by kernel_rfl
theorem t305:TT 305 = some q305:=by kernel_rfl
theorem v305:valT 305 = true:=by kernel_rfl
theorem t306:TT 306 = some q306:=by kernel_rfl
theorem v306:valT 306 = true:=by kernel_rfl
theorem t307:TT 307 = some q307:=by kernel_rfl
theorem v307:valT 307 = false:=by kernel_rfl
theorem t308:TT 308 = some q308:=by kernel_rfl
theorem v308:valT 308 = true:=by kernel_rfl
theorem t309:TT 309 = some q309:=by kernel_rfl
theorem v309:valT 309 = false:=by kernel_rfl
theorem t310:TT 310 = some q310:=by kernel_rfl
theorem v310:valT 310 = true:=by kernel_rfl
theorem t311:TT 311 = some q311:=by kernel_rfl
theorem v311:valT 311 = false:=by kernel_rfl
theorem t312:TT 312 = some q312:=by kernel_rfl
theorem v312:valT 312 = false:=by kernel_rfl
theorem t313:TT 313 = some q313:=by kernel_rfl
theorem v313:valT 313 = false:=by kernel_rfl
theorem t314:TT 314 = some q314:=by kernel_rfl
theorem v314:valT 314 = false:=by kernel_rfl
theorem t321:TT 321 = some q321:=by kernel_rfl
theorem v321:valT 321 = true:=by kernel_rfl
theorem t322:TT 322 = some q322:=by kernel_rfl
theorem v322:valT 322 = true:=by kernel_rfl
theorem t323:TT 323 = some q323:=by kernel_rfl
theorem v323:valT 323 = true:=by kernel_rfl
theorem t324:TT 324 = some q324:=by kernel_rfl
theorem v324:valT 324 = true:=by kernel_rfl
theorem t325:TT 325 = some q325:=by kernel_rfl
theorem v325:valT 325 = true:=by kernel_rfl
theorem t326:TT 326 = some q326:=by kernel_rfl
theorem v326:valT 326 = true:=by kernel_rfl
theorem t338:TT 338 = some q338:=by kernel_rfl
theorem v338:valT 338 = true:=by kernel_rfl
theorem t339:TT 339 = some q339:=by kernel_rfl
theorem v339:valT 339 = false:=by kernel_rfl
theorem t340:TT 340 = some q340:=by kernel_rfl
theorem v340:valT 340 = false:=by kernel_rfl
theorem t341:TT 341 = some q341:=by kernel_rfl
theorem v341:valT 341 = true:=by kernel_rfl
theorem t342:TT 342 = some q342:=by kernel_rfl
theorem v342:valT 342 = true:=by kernel_rfl
theorem t363:TT 363 = some q363:=by kernel_rfl
theorem v363:valT 363 = true:=by kernel_rfl
theorem t364:TT 364 = some q364:=by kernel_rfl
theorem v364:valT 364 = false:=by kernel_rfl
theorem t365:TT 365 = some q365:=by kernel_rfl
theorem v365:valT 365 = false:=by kernel_rfl
theorem t366:TT 366 = some q366:=by kernel_rfl
theorem v366:valT 366 = false:=by kernel_rfl
theorem t367:TT 367 = some q367:=by kernel_rfl
theorem v367:valT 367 = false:=by kernel_rfl
theorem t368:TT 368 = some q368:=by kernel_rfl
theorem v368:valT 368 = false:=by kernel_rfl
theorem t369:TT 369 = some q369:=by kernel_rfl
theorem v369:valT 369 = false:=by kernel_rfl
theorem t370:TT 370 = some q370:=by kernel_rfl
theorem v370:valT 370 = true:=by kernel_rfl
theorem t371:TT 371 = some q371:=by kernel_rfl
theorem v371:valT 371 = true:=by kernel_rfl
theorem t372:TT 372 = some q372:=by kernel_rfl
theorem v372:valT 372 = true:=by kernel_rfl
theorem t380:TT 380 = some q380:=by kernel_rfl
theorem v380:valT 380 = false:=by kernel_rfl
theorem t381:TT 381 = some q381:=by kernel_rfl
theorem v381:valT 381 = false:=by kernel_rfl
theorem t382:TT 382 = some q382:=by kernel_rfl
theorem v382:valT 382 = true:=by kernel_rfl
theorem t383:TT 383 = some q383:=by kernel_rfl
theorem v383:valT 383 = true:=by kernel_rfl
theorem t384:TT 384 = some q384:=by kernel_rfl
theorem v384:valT 384 = true:=by kernel_rfl
theorem t386:TT 386 = some q386:=by kernel_rfl
theorem v386:valT 386 = true:=by kernel_rfl
theorem t387:TT 387 = some q387:=by kernel_rfl
theorem v387:valT 387 = true:=by kernel_rfl
theorem t427:TT 427 = some q427:=by kernel_rfl
theorem v427:valT 427 = false:=by kernel_rfl
theorem t428:TT 428 = some q428:=by kernel_rfl
theorem v428:valT 428 = false:=by kernel_rfl
theorem t429:TT 429 = some q429:=by kernel_rfl
theorem v429:valT 429 = false:=by kernel_rfl
theorem t430:TT 430 = some q430:=by kernel_rfl
theorem v430:valT 430 = false:=by kernel_rfl
theorem t431:TT 431 = some q431:=by kernel_rfl
theorem v431:valT 431 = false:=by kernel_rfl
theorem t432:TT 432 = some q432:=by kernel_rfl
theorem v432:valT 432 = false:=by kernel_rfl
theorem t433:TT 433 = some q433:=by kernel_rfl
theorem v433:valT 433 = false:=by kernel_rfl
theorem t435:TT 435 = some q435:=by kernel_rfl
theorem v435:valT 435 = false:=by kernel_rfl
theorem t436:TT 436 = some q436:=by kernel_rfl
theorem v436:valT 436 = false:=by kernel_rfl
theorem t437:TT 437 = some q437:=by kernel_rfl
theorem v437:valT 437 = false:=by kernel_rfl
theorem t438:TT 438 = some q438:=by kernel_rfl
theorem v438:valT 438 = true:=by kernel_rfl
theorem t439:TT 439 = some q439:=by kernel_rfl
theorem v439:valT 439 = true:=by kernel_rfl
theorem t440:TT 440 = some q440:=by kernel_rfl
theorem v440:valT 440 = true:=by kernel_rfl
theorem t441:TT 441 = some q441:=by kernel_rfl
theorem v441:valT 441 = false:=by kernel_rfl
theorem t442:TT 442 = some q442:=by kernel_rfl
theorem v442:valT 442 = false:=by kernel_rfl
theorem t444:TT 444 = some q444:=by kernel_rfl
theorem v444:valT 444 = true:=by kernel_rfl
theorem t446:TT 446 = some q446:=by kernel_rfl
theorem v446:valT 446 = false:=by kernel_rfl
theorem t447:TT 447 = some q447:=by kernel_rfl
theorem v447:valT 447 = false:=by kernel_rfl
theorem t448:TT 448 = some q448:=by kernel_rfl
theorem v448:valT 448 = true:=by kernel_rfl
theorem t463:TT 463 = some q463:=by kernel_rfl
theorem v463:valT 463 = false:=by kernel_rfl
theorem t464:TT 464 = some q464:=by kernel_rfl
theorem v464:valT 464 = false:=by kernel_rfl
theorem t465:TT 465 = some q465:=by kernel_rfl
theorem v465:valT 465 = false:=by kernel_rfl
theorem t466:TT 466 = some q466:=by kernel_rfl
theorem v466:valT 466 = false:=by kernel_rfl
theorem t467:TT 467 = some q467:=by kernel_rfl
theorem v467:valT 467 = false:=by kernel_rfl
theorem t468:TT 468 = some q468:=by kernel_rfl
theorem v468:valT 468 = true:=by kernel_rfl
theorem t469:TT 469 = some q469:=by kernel_rfl
theorem v469:valT 469 = false:=by kernel_rfl
theorem t470:TT 470 = some q470:=by kernel_rfl
theorem v470:valT 470 = false:=by kernel_rfl
theorem t471:TT 471 = some q471:=by kernel_rfl
theorem v471:valT 471 = true:=by kernel_rfl
theorem t472:TT 472 = some q472:=by kernel_rfl
theorem v472:valT 472 = false:=by kernel_rfl
theorem t474:TT 474 = some q474:=by kernel_rfl
theorem v474:valT 474 = false:=by kernel_rfl
theorem t475:TT 475 = some q475:=by kernel_rfl
theorem v475:valT 475 = false:=by kernel_rfl
theorem t476:TT 476 = some q476:=by kernel_rfl
theorem v476:valT 476 = false:=by kernel_rfl
theorem t477:TT 477 = some q477:=by kernel_rfl
theorem v477:valT 477 = true:=by kernel_rfl
theorem t483:TT 483 = some q483:=by kernel_rfl
theorem v483:valT 483 = false:=by kernel_rfl
theorem t484:TT 484 = some q484:=by kernel_rfl
theorem v484:valT 484 = false:=by kernel_rfl
theorem t485:TT 485 = some q485:=by kernel_rfl
theorem v485:valT 485 = false:=by kernel_rfl
theorem t486:TT 486 = some q486:=by kernel_rfl
theorem v486:valT 486 = true:=by kernel_rfl
theorem t487:TT 487 = some q487:=by kernel_rfl
theorem v487:valT 487 = false:=by kernel_rfl
theorem t497:TT 497 = some q497:=by kernel_rfl
theorem v497:valT 497 = false:=by kernel_rfl
theorem t498:TT 498 = some q498:=by kernel_rfl
theorem v498:valT 498 = false:=by kernel_rfl
theorem tabT_ok:TabA Tryz.prog TT:=lookT_ok (by
 simp only [tabT,List.mem_cons,List.not_mem_nil,or_false]
 rintro p (rfl | rfl | rfl | rfl | rfl | rfl | rfl | rfl | rfl | rfl | rfl | rfl | rfl | rfl | rfl | rfl | rfl | rfl | rfl | rfl | rfl | rfl | rfl | rfl | rfl | rfl | rfl | rfl | rfl | rfl | rfl | rfl | rfl | rfl | rfl | rfl | rfl | rfl | rfl | rfl | rfl | rfl | rfl | rfl | rfl | rfl | rfl | rfl | rfl | rfl | rfl | rfl | rfl | rfl | rfl | rfl | rfl | rfl | rfl | rfl | rfl | rfl | rfl | rfl | rfl | rfl | rfl | rfl | rfl | rfl | rfl | rfl | rfl | rfl | rfl | rfl | rfl | rfl | rfl | rfl | rfl | rfl | rfl | rfl | rfl | rfl | rfl | rfl | rfl | rfl | rfl | rfl | rfl | rfl | rfl | rfl | rfl | rfl | rfl | rfl | rfl | rfl | rfl | rfl | rfl | rfl | rfl | rfl | rfl | rfl | rfl | rfl | rfl | rfl | rfl | rfl | rfl | rfl | rfl | rfl | rfl | rfl | rfl | rfl | rfl | rfl | rfl | rfl | rfl | rfl | rfl | rfl | rfl | rfl | rfl | rfl | rfl | rfl | rfl | rfl | rfl | rfl | rfl | rfl | rfl | rfl | rfl)
 · exact ok31
 · exact ok41
 · exact ok43
 · exact ok44
 · exact ok45
 · exact ok50
 · exact ok52
 · exact ok71
 · exact ok73
 · exact ok87
 · exact ok92
 · exact ok93
 · exact ok94
 · exact ok100
 · exact ok102
 · exact ok103
 · exact ok104
 · exact ok105
 · exact ok106
 · exact ok107
 · exact ok108
 · exact ok109
 · exact ok110
 · exact ok113
 · exact ok114
 · exact ok117
 · exact ok148
 · exact ok155
 · exact ok156
 · exact ok157
 · exact ok158
 · exact ok159
 · exact ok160
 · exact ok185
 · exact ok188
 · exact ok191
 · exact ok193
 · exact ok196
 · exact ok200
 · exact ok201
 · exact ok205
 · exact ok207
 · exact ok208
 · exact ok209
 · exact ok210
 · exact ok211
 · exact ok212
 · exact ok213
 · exact ok214
 · exact ok215
 · exact ok216
 · exact ok229
 · exact ok230
 · exact ok231
 · exact ok232
 · exact ok239
 · exact ok241
 · exact ok248
 · exact ok249
 · exact ok252
 · exact ok263
 · exact ok292
 · exact ok298
 · exact ok299
 · exact ok300
 · exact ok301
 · exact ok302
 · exact ok303
 · exact ok304
 · exact ok305
 · exact ok306
 · exact ok307
 · exact ok308
 · exact ok309
 · exact ok310
 · exact ok311
 · exact ok312
 · exact ok313
 · exact ok314
 · exact ok321
 · exact ok322
 · exact ok323
 · exact ok324
 · exact ok325
 · exact ok326
 · exact ok338
 · exact ok339
 · exact ok340
 · exact ok341
 · exact ok342
 · exact ok363
 · exact ok364
 · exact ok365
 · exact ok366
 · exact ok367
 · exact ok368
 · exact ok369
 · exact ok370
 · exact ok371
 · exact ok372
 · exact ok380
 · exact ok381
 · exact ok382
 · exact ok383
 · exact ok384
 · exact ok386
 · exact ok387
 · exact ok427
 · exact ok428
 · exact ok429
 · exact ok430
 · exact ok431
 · exact ok432
 · exact ok433
 · exact ok435
 · exact ok436
 · exact ok437
 · exact ok438
 · exact ok439
 · exact ok440
 · exact ok441
 · exact ok442
 · exact ok444
 · exact ok446
 · exact ok447
 · exact ok448
 · exact ok463
 · exact ok464
 · exact ok465
 · exact ok466
 · exact ok467
 · exact ok468
 · exact ok469
 · exact ok470
 · exact ok471
 · exact ok472
 · exact ok474
 · exact ok475
 · exact ok476
 · exact ok477
 · exact ok483
 · exact ok484
 · exact ok485
 · exact ok486
 · exact ok487
 · exact ok497
 · exact ok498)
end Go.Proofs.YtmnfjejphmmddaaGreat
