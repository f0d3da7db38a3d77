/- The table of functions; which of them go by value. -/
import Derived.Test.YtegfnefobbgkjaaGreatF8
import Derived.Test.YtegfnefobbgkjaaGreatF7
import Derived.Test.YtegfnefobbgkjaaGreatF6
import Derived.Test.YtegfnefobbgkjaaGreatGd
import Derived.KernelRfl
set_option maxRecDepth 100000
namespace Go.Proofs.YtegfnefobbgkjaaGreat
def tabT:List (Nat × QF):=[(5,q31),(44,q41),(56,q45),(76,q52),(12,q70),(13,q87),(47,q92),(43,q93),(48,q94),(206,q103),(126,q108),(127,q109),(128,q110),(83,q113),(141,q114),(54,q117),(26,q185),(102,q191),(105,q193),(108,q196),(112,q200),(113,q201),(117,q205),(95,q207),(96,q208),(97,q209),(98,q210),(99,q211),(119,q212),(120,q213),(121,q214),(122,q215),(123,q216),(207,q229),(159,q230),(160,q231),(125,q232),(129,q239),(131,q241),(152,q263),(193,q292),(173,q298),(174,q299),(175,q300),(176,q301),(177,q302),(178,q303),(179,q304),(180,q305),(181,q306),(182,q307),(183,q308),(184,q309),(185,q310),(201,q311),(202,q312),(203,q313),(204,q314),(226,q321),(227,q322),(228,q323),(229,q324),(230,q325),(231,q326),(218,q338),(219,q339),(220,q340),(221,q341),(222,q342),(238,q363),(239,q364),(240,q365),(241,q366),(242,q367),(243,q368),(244,q369),(260,q370),(261,q371),(262,q372),(252,q380),(253,q381),(254,q382),(255,q383),(256,q384),(258,q386),(259,q387),(288,q427),(289,q428),(290,q429),(291,q430),(292,q431),(293,q432),(294,q433),(298,q435),(299,q436),(300,q437),(301,q438),(302,q439),(303,q440),(304,q441),(305,q442),(307,q444),(309,q446),(310,q447),(311,q448),(329,q463),(330,q464),(331,q465),(332,q466),(333,q467),(334,q468),(335,q469),(336,q470),(337,q471),(338,q472),(340,q474),(341,q475),(342,q476),(343,q477),(350,q483),(351,q484),(352,q485),(353,q486),(354,q487),(364,q497),(366,q498)]
def TT:FuncId -> Option QF:=lookT tabT
def valT (f:FuncId):Bool:=[5,44,56,76,12,13,47,43,48,126,83,141,54,26,102,105,112,117,95,96,97,98,99,122,159,160,125,131,152,173,174,175,179,180,181,183,185,226,227,228,229,230,231,218,221,222,238,260,261,262,254,255,256,258,259,301,302,303,307,311,334,337,343,353].any fun n=>Nat.beq n f
theorem t31:TT 5 = some q31:=by kernel_rfl
theorem v31:valT 5 = true:=by kernel_rfl
theorem t41:TT 44 = some q41:=by kernel_rfl
theorem v41:valT 44 = true:=by kernel_rfl
theorem t45:TT 56 = some q45:=by kernel_rfl
theorem v45:valT 56 = true:=by kernel_rfl
theorem t52:TT 76 = some q52:=by kernel_rfl
theorem v52:valT 76 = true:=by kernel_rfl
theorem t70:TT 12 = some q70:=by kernel_rfl
theorem v70:valT 12 = true:=by kernel_rfl
theorem t87:TT 13 = some q87:=by kernel_rfl
theorem v87:valT 13 = true:=by kernel_rfl
theorem t92:TT 47 = some q92:=by kernel_rfl
theorem v92:valT 47 = true:=by kernel_rfl
theorem t93:TT 43 = some q93:=by kernel_rfl
theorem v93:valT 43 = true:=by kernel_rfl
theorem t94:TT 48 = some q94:=by kernel_rfl
theorem v94:valT 48 = true:=by kernel_rfl
theorem t103:TT 206 = some q103:=by kernel_rfl
theorem v103:valT 206 = false:=by kernel_rfl
theorem t108:TT 126 = some q108:=by kernel_rfl
theorem v108:valT 126 = true:=by kernel_rfl
theorem t109:TT 127 = some q109:=by kernel_rfl
theorem v109:valT 127 = false:=by kernel_rfl
theorem t110:TT 128 = some q110:=by kernel_rfl
theorem v110:valT 128 = false:=by kernel_rfl
theorem t113:TT 83 = some q113:=by kernel_rfl
theorem v113:valT 83 = true:=by kernel_rfl
theorem t114:TT 141 = some q114:=by kernel_rfl
theorem v114:valT 141 = true:=by kernel_rfl
theorem t117:TT 54 = some q117:=by kernel_rfl
theorem v117:valT 54 = true:=by kernel_rfl
theorem t185:TT 26 = some q185:=by kernel_rfl
theorem v185:valT 26 = true:=by kernel_rfl
theorem t191:TT 102 = some q191:=by kernel_rfl
theorem v191:valT 102 = true:=by kernel_rfl
theorem t193:TT 105 = some q193:=by kernel_rfl
theorem v193:valT 105 = true:=by kernel_rfl
theorem t196:TT 108 = some q196:=by kernel_rfl
theorem v196:valT 108 = false:=by kernel_rfl
theorem t200:TT 112 = some q200:=by kernel_rfl
theorem v200:valT 112 = true:=by kernel_rfl
theorem t201:TT 113 = some q201:=by kernel_rfl
theorem v201:valT 113 = false:=by kernel_rfl
theorem t205:TT 117 = some q205:=by kernel_rfl
theorem v205:valT 117 = true:=by kernel_rfl
theorem t207:TT 95 = some q207:=by kernel_rfl
theorem v207:valT 95 = true:=by kernel_rfl
theorem t208:TT 96 = some q208:=by kernel_rfl
theorem v208:valT 96 = true:=by kernel_rfl
theorem t209:TT 97 = some q209:=by kernel_rfl
theorem v209:valT 97 = true:=by kernel_rfl
theorem t210:TT 98 = some q210:=by kernel_rfl
theorem v210:valT 98 = true:=by kernel_rfl
theorem t211:TT 99 = some q211:=by kernel_rfl
theorem v211:valT 99 = true:=by kernel_rfl
theorem t212:TT 119 = some q212:=by kernel_rfl
theorem v212:valT 119 = false:=by kernel_rfl
theorem t213:TT 120 = some q213:=by kernel_rfl
theorem v213:valT 120 = false:=by kernel_rfl
theorem t214:TT 121 = some q214:=by kernel_rfl
theorem v214:valT 121 = false:=by kernel_rfl
theorem t215:TT 122 = some q215:=by kernel_rfl
theorem v215:valT 122 = true:=by kernel_rfl
theorem t216:TT 123 = some q216:=by kernel_rfl
theorem v216:valT 123 = false:=by kernel_rfl
theorem t229:TT 207 = some q229:=by kernel_rfl
theorem v229:valT 207 = false:=by kernel_rfl
theorem t230:TT 159 = some q230:=by kernel_rfl
theorem v230:valT 159 = true:=by kernel_rfl
theorem t231:TT 160 = some q231:=by kernel_rfl
theorem v231:valT 160 = true:=by kernel_rfl
theorem t232:TT 125 = some q232:=by kernel_rfl
theorem v232:valT 125 = true:=by kernel_rfl
theorem t239:TT 129 = some q239:=by kernel_rfl
theorem v239:valT 129 = false:=by kernel_rfl
theorem t241:TT 131 = some q241:=by kernel_rfl
theorem v241:valT 131 = true:=by kernel_rfl
theorem t263:TT 152 = some q263:=by kernel_rfl
theorem v263:valT 152 = true:=by kernel_rfl
theorem t292:TT 193 = some q292:=by kernel_rfl
theorem v292:valT 193 = false:=by kernel_rfl
theorem t298:TT 173 = some q298:=by kernel_rfl
theorem v298:valT 173 = true:=by kernel_rfl
theorem t299:TT 174 = some q299:=by kernel_rfl
theorem v299:valT 174 = true:=by kernel_rfl
theorem t300:TT 175 = some q300:=by kernel_rfl
theorem v300:valT 175 = true:=by kernel_rfl
theorem t301:TT 176 = some q301:=by kernel_rfl
theorem v301:valT 176 = false:=by kernel_rfl
theorem t302:TT 177 = some q302:=by kernel_rfl
theorem v302:valT 177 = false:=by kernel_rfl
theorem t303:TT 178 = some q303:=by kernel_rfl
theorem v303:valT 178 = false:=by kernel_rfl
theorem t304:TT 179 = some q304:=by kernel_rfl
theorem v304:valT 179 = true:=by kernel_rfl
theorem t305:TT 180 = some q305:=by kernel_rfl
theorem v305:valT 180 = true:=by kernel_rfl
theorem t306:TT 181 = some q306:=by kernel_rfl
theorem v306:valT 181 = true:=by kernel_rfl
theorem t307:TT 182 = some q307:=by kernel_rfl
theorem v307:valT 182 = false:=by kernel_rfl
theorem t308:TT 183 = some q308:=by kernel_rfl
theorem v308:valT 183 = true:=by kernel_rfl
theorem t309:TT 184 = some q309:=by kernel_rfl
theorem v309:valT 184 = false:=by kernel_rfl
theorem t310:TT 185 = some q310:=by kernel_rfl
theorem v310:valT 185 = true:=by kernel_rfl
theorem t311:TT 201 = some q311:=by kernel_rfl
theorem v311:valT 201 = false:=by kernel_rfl
theorem t312:TT 202 = some q312:=by kernel_rfl
theorem v312:valT 202 = false:=by kernel_rfl
theorem t313:TT 203 = some q313:=by kernel_rfl
theorem v313:valT 203 = false:=by kernel_rfl
theorem t314:TT 204 = some q314:=by kernel_rfl
theorem v314:valT 204 = false:=by kernel_rfl
theorem t321:TT 226 = some q321:=by kernel_rfl
theorem v321:valT 226 = true:=by kernel_rfl
theorem t322:TT 227 = some q322:=by kernel_rfl
theorem v322:valT 227 = true:=by kernel_rfl
theorem t323:TT 228 = some q323:=by kernel_rfl
theorem v323:valT 228 = true:=by kernel_rfl
theorem t324:TT 229 = some q324:=by kernel_rfl
theorem v324:valT 229 = true:=by kernel_rfl
theorem t325:TT 230 = some q325:=by kernel_rfl
theorem v325:valT 230 = true:=by kernel_rfl
theorem t326:TT 231 = some q326:=by kernel_rfl
theorem v326:valT 231 = true:=by kernel_rfl
theorem t338:TT 218 = some q338:=by kernel_rfl
theorem v338:valT 218 = true:=by kernel_rfl
theorem t339:TT 219 = some q339:=by kernel_rfl
theorem v339:valT 219 = false:=by kernel_rfl
theorem t340:TT 220 = some q340:=by kernel_rfl
theorem v340:valT 220 = false:=by kernel_rfl
theorem t341:TT 221 = some q341:=by kernel_rfl
theorem v341:valT 221 = true:=by kernel_rfl
theorem t342:TT 222 = some q342:=by kernel_rfl
theorem v342:valT 222 = true:=by kernel_rfl
theorem t363:TT 238 = some q363:=by kernel_rfl
theorem v363:valT 238 = true:=by kernel_rfl
theorem t364:TT 239 = some q364:=by kernel_rfl
theorem v364:valT 239 = false:=by kernel_rfl
theorem t365:TT 240 = some q365:=by kernel_rfl
theorem v365:valT 240 = false:=by kernel_rfl
theorem t366:TT 241 = some q366:=by kernel_rfl
theorem v366:valT 241 = false:=by kernel_rfl
theorem t367:TT 242 = some q367:=by kernel_rfl
theorem v367:valT 242 = false:=by kernel_rfl
theorem t368:TT 243 = some q368:=by kernel_rfl
theorem v368:valT 243 = false:=by kernel_rfl
theorem t369:TT 244 = some q369:=by kernel_rfl
theorem v369:valT 244 = false:=by kernel_rfl
theorem t370:TT 260 = some q370:=by kernel_rfl
theorem v370:valT 260 = true:=by kernel_rfl
theorem t371:TT 261 = some q371:=by kernel_rfl
theorem v371:valT 261 = true:=by kernel_rfl
theorem t372:TT 262 = some q372:=by kernel_rfl
theorem v372:valT 262 = true:=by kernel_rfl
theorem t380:TT 252 = some q380:=by kernel_rfl
theorem v380:valT 252 = false:=by kernel_rfl
theorem t381:TT 253 = some q381:=by kernel_rfl
theorem v381:valT 253 = false:=by kernel_rfl
theorem t382:TT 254 = some q382:=by kernel_rfl
theorem v382:valT 254 = true:=by kernel_rfl
theorem t383:TT 255 = some q383:=by kernel_rfl
theorem v383:valT 255 = true:=by kernel_rfl
theorem t384:TT 256 = some q384:=by kernel_rfl
theorem v384:valT 256 = true:=by kernel_rfl
theorem t386:TT 258 = some q386:=by kernel_rfl
theorem v386:valT 258 = true:=by kernel_rfl
theorem t387:TT 259 = some q387:=by kernel_rfl
theorem v387:valT 259 = true:=by kernel_rfl
theorem t427:TT 288 = some q427:=by kernel_rfl
theorem v427:valT 288 = false:=by kernel_rfl
theorem t428:TT 289 = some q428:=by kernel_rfl
theorem v428:valT 289 = false:=by kernel_rfl
theorem t429:TT 290 = some q429:=by kernel_rfl
theorem v429:valT 290 = false:=by kernel_rfl
theorem t430:TT 291 = some q430:=by kernel_rfl
theorem v430:valT 291 = false:=by kernel_rfl
theorem t431:TT 292 = some q431:=by kernel_rfl
theorem v431:valT 292 = false:=by kernel_rfl
theorem t432:TT 293 = some q432:=by kernel_rfl
theorem v432:valT 293 = false:=by kernel_rfl
theorem t433:TT 294 = some q433:=by kernel_rfl
theorem v433:valT 294 = false:=by kernel_rfl
theorem t435:TT 298 = some q435:=by kernel_rfl
theorem v435:valT 298 = false:=by kernel_rfl
theorem t436:TT 299 = some q436:=by kernel_rfl
theorem v436:valT 299 = false:=by kernel_rfl
theorem t437:TT 300 = some q437:=by kernel_rfl
theorem v437:valT 300 = false:=by kernel_rfl
theorem t438:TT 301 = some q438:=by kernel_rfl
theorem v438:valT 301 = true:=by kernel_rfl
theorem t439:TT 302 = some q439:=by kernel_rfl
theorem v439:valT 302 = true:=by kernel_rfl
theorem t440:TT 303 = some q440:=by kernel_rfl
theorem v440:valT 303 = true:=by kernel_rfl
theorem t441:TT 304 = some q441:=by kernel_rfl
theorem v441:valT 304 = false:=by kernel_rfl
theorem t442:TT 305 = some q442:=by kernel_rfl
theorem v442:valT 305 = false:=by kernel_rfl
theorem t444:TT 307 = some q444:=by kernel_rfl
theorem v444:valT 307 = true:=by kernel_rfl
theorem t446:TT 309 = some q446:=by kernel_rfl
theorem v446:valT 309 = false:=by kernel_rfl
theorem t447:TT 310 = some q447:=by kernel_rfl
theorem v447:valT 310 = false:=by kernel_rfl
theorem t448:TT 311 = some q448:=by kernel_rfl
theorem v448:valT 311 = true:=by kernel_rfl
theorem t463:TT 329 = some q463:=by kernel_rfl
theorem v463:valT 329 = false:=by kernel_rfl
theorem t464:TT 330 = some q464:=by kernel_rfl
theorem v464:valT 330 = false:=by kernel_rfl
theorem t465:TT 331 = some q465:=by kernel_rfl
theorem v465:valT 331 = false:=by kernel_rfl
theorem t466:TT 332 = some q466:=by kernel_rfl
theorem v466:valT 332 = false:=by kernel_rfl
theorem t467:TT 333 = some q467:=by kernel_rfl
theorem v467:valT 333 = false:=by kernel_rfl
theorem t468:TT 334 = some q468:=by kernel_rfl
theorem v468:valT 334 = true:=by kernel_rfl
theorem t469:TT 335 = some q469:=by kernel_rfl
theorem v469:valT 335 = false:=by kernel_rfl
theorem t470:TT 336 = some q470:=by kernel_rfl
theorem v470:valT 336 = false:=by kernel_rfl
theorem t471:TT 337 = some q471:=by kernel_rfl
theorem v471:valT 337 = true:=by kernel_rfl
theorem t472:TT 338 = some q472:=by kernel_rfl
theorem v472:valT 338 = false:=by kernel_rfl
theorem t474:TT 340 = some q474:=by kernel_rfl
theorem v474:valT 340 = false:=by kernel_rfl
theorem t475:TT 341 = some q475:=by kernel_rfl
theorem v475:valT 341 = false:=by kernel_rfl
theorem t476:TT 342 = some q476:=by kernel_rfl
theorem v476:valT 342 = false:=by kernel_rfl
theorem t477:TT 343 = some q477:=by kernel_rfl
theorem v477:valT 343 = true:=by kernel_rfl
theorem t483:TT 350 = some q483:=by kernel_rfl
theorem v483:valT 350 = false:=by kernel_rfl
theorem t484:TT 351 = some q484:=by kernel_rfl
theorem v484:valT 351 = false:=by kernel_rfl
theorem t485:TT 352 = some q485:=by kernel_rfl
theorem v485:valT 352 = false:=by kernel_rfl
theorem t486:TT 353 = some q486:=by kernel_rfl
theorem v486:valT 353 = true:=by kernel_rfl
theorem t487:TT 354 = some q487:=by kernel_rfl
theorem v487:valT 354 = false:=by kernel_rfl
theorem t497:TT 364 = some q497:=by kernel_rfl
theorem v497:valT 364 = false:=by kernel_rfl
theorem t498:TT 366 = some q498:=by kernel_rfl
theorem v498:valT 366 = false:=by kernel_rfl
theorem tabT_ok:TabA Tryz.prog TT:=lookT_ok (by
 simp only [tabT,List.mem_cons,List.not_mem_nil,or_false]
 rintro p (rfl | rfl | rfl | rfl | rfl | rfl | rfl | rfl | rfl | rfl | rfl | rfl | rfl | rfl | rfl | rfl | rfl | rfl | rfl | rfl | rfl | rfl | rfl | rfl | rfl | rfl | rfl | rfl | rfl | rfl | rfl | rfl | rfl | rfl | rfl | rfl | rfl | rfl | rfl | rfl | rfl | rfl | rfl | rfl | rfl | rfl | rfl | rfl | rfl | rfl | rfl | rfl | rfl | rfl | rfl | rfl | rfl | rfl | rfl | rfl | rfl | rfl | rfl | rfl | rfl | rfl | rfl | rfl | rfl | rfl | rfl | rfl | rfl | rfl | rfl | rfl | rfl | rfl | rfl | rfl | rfl | rfl | rfl | rfl | rfl | rfl | rfl | rfl | rfl | rfl | rfl | rfl | rfl | rfl | rfl | rfl | rfl | rfl | rfl | rfl | rfl | rfl | rfl | rfl | rfl | rfl | rfl | rfl | rfl | rfl | rfl | rfl | rfl | rfl | rfl | rfl | rfl | rfl | rfl | rfl | rfl | rfl | rfl | rfl | rfl | rfl)
 · exact ok31
 · exact ok41
 · exact ok45
 · exact ok52
 · exact ok70
 · exact ok87
 · exact ok92
 · exact ok93
 · exact ok94
 · exact ok103
 · exact ok108
 · exact ok109
 · exact ok110
 · exact ok113
 · exact ok114
 · exact ok117
 · exact ok185
 · exact ok191
 · exact ok193
 · exact ok196
 · exact ok200
 · exact ok201
 · exact ok205
 · exact ok207
 · exact ok208
 · exact ok209
 · exact ok210
 · exact ok211
 · exact ok212
 · exact ok213
 · exact ok214
 · exact ok215
 · exact ok216
 · exact ok229
 · exact ok230
 · exact ok231
 · exact ok232
 · exact ok239
 · exact ok241
 · exact ok263
 · exact ok292
 · exact ok298
 · exact ok299
 · exact ok300
 · exact ok301
 · exact ok302
 · exact ok303
 · exact ok304
 · exact ok305
 · exact ok306
 · exact ok307
 · exact ok308
 · exact ok309
 · exact ok310
 · exact ok311
 · exact ok312
 · exact ok313
 · exact ok314
 · exact ok321
 · exact ok322
 · exact ok323
 · exact ok324
 · exact ok325
 · exact ok326
 · exact ok338
 · exact ok339
 · exact ok340
 · exact ok341
 · exact ok342
 · exact ok363
 · exact ok364
 · exact ok365
 · exact ok366
 · exact ok367
 · exact ok368
 · exact ok369
 · exact ok370
 · exact ok371
 · exact ok372
 · exact ok380
 · exact ok381
 · exact ok382
 · exact ok383
 · exact ok384
 · exact ok386
 · exact ok387
 · exact ok427
 · exact ok428
 · exact ok429
 · exact ok430
 · exact ok431
 · exact ok432
 · exact ok433
 · exact ok435
 · exact ok436
 · exact ok437
 · exact ok438
 · exact ok439
 · exact ok440
 · exact ok441
 · exact ok442
 · exact ok444
 · exact ok446
 · exact ok447
 · exact ok448
 · exact ok463
 · exact ok464
 · exact ok465
 · exact ok466
 · exact ok467
 · exact ok468
 · exact ok469
 · exact ok470
 · exact ok471
 · exact ok472
 · exact ok474
 · exact ok475
 · exact ok476
 · exact ok477
 · exact ok483
 · exact ok484
 · exact ok485
 · exact ok486
 · exact ok487
 · exact ok497
 · exact ok498)
end Go.Proofs.YtegfnefobbgkjaaGreat
