/- The table of functions; which of them go by value. -/
import Derived.Test.YtmnfjejphmmddaaGreatF8
import Derived.Test.YtmnfjejphmmddaaGreatF7
import Derived.Test.YtmnfjejphmmddaaGreatF6
import Derived.Test.YtmnfjejphmmddaaGreatGd
import Derived.KernelRfl
set_option maxRecDepth 100000
namespace Go.Proofs.YtmnfjejphmmddaaGreat
def tabT:List (Nat × QF):=[(31,q31),(70,q70),(87,q87),(113,q113),(117,q117),(185,q185),(230,q230),(231,q231),(232,q232),(241,q241),(263,q263),(299,q299),(305,q305),(321,q321),(322,q322),(323,q323),(324,q324),(325,q325),(326,q326),(338,q338),(341,q341),(342,q342),(370,q370),(371,q371),(372,q372),(380,q380),(381,q381),(382,q382),(383,q383),(384,q384),(386,q386),(387,q387),(435,q435),(436,q436),(437,q437),(438,q438),(439,q439),(440,q440),(441,q441),(442,q442),(444,q444),(446,q446),(447,q447),(448,q448),(465,q465),(466,q466),(467,q467),(468,q468),(469,q469),(470,q470),(471,q471),(472,q472),(474,q474),(475,q475),(476,q476),(477,q477),(483,q483),(484,q484),(485,q485),(486,q486),(487,q487),(497,q497),(498,q498)]
def TT:FuncId -> Option QF:=lookT tabT
def valT (f:FuncId):Bool:=[299,305,440,471,448,477,486,468,438,341,382,384,386,439,444,383,387,342,263,338,241,70,117,232,31,87,113,185,230,231,321,322,323,324,325,326,370,371,372].any fun n=>Nat.beq n f
theorem t31:TT 31 = some q31:=by kernel_rfl
theorem v31:valT 31 = true:=by kernel_rfl
theorem t70:TT 70 = some q70:=by kernel_rfl
theorem v70:valT 70 = true:=by kernel_rfl
theorem t87:TT 87 = some q87:=by kernel_rfl
theorem v87:valT 87 = true:=by kernel_rfl
theorem t113:TT 113 = some q113:=by kernel_rfl
theorem v113:valT 113 = true:=by kernel_rfl
theorem t117:TT 117 = some q117:=by kernel_rfl
theorem v117:valT 117 = true:=by kernel_rfl
theorem t185:TT 185 = some q185:=by kernel_rfl
theorem v185:valT 185 = true:=by kernel_rfl
theorem t230:TT 230 = some q230:=by kernel_rfl
theorem v230:valT 230 = true:=by kernel_rfl
theorem t231:TT 231 = some q231:=by kernel_rfl
theorem v231:valT 231 = true:=by kernel_rfl
theorem t232:TT 232 = some q232:=by kernel_rfl
theorem v232:valT 232 = true:=by kernel_rfl
theorem t241:TT 241 = some q241:=by kernel_rfl
theorem v241:valT 241 = true:=by kernel_rfl
theorem t263:TT 263 = some q263:=by kernel_rfl
theorem v263:valT 263 = true:=by kernel_rfl
theorem t299:TT 299 = some q299:=by kernel_rfl
theorem v299:valT 299 = true:=by kernel_rfl
theorem t305:TT 305 = some q305:=by kernel_rfl
theorem v305:valT 305 = true:=by kernel_rfl
theorem t321:TT 321 = some q321:=by kernel_rfl
theorem v321:valT 321 = true:=by kernel_rfl
theorem t322:TT 322 = some q322:=by kernel_rfl
theorem v322:valT 322 = true:=by kernel_rfl
theorem t323:TT 323 = some q323:=by kernel_rfl
theorem v323:valT 323 = true:=by kernel_rfl
theorem t324:TT 324 = some q324:=by kernel_rfl
theorem v324:valT 324 = true:=by kernel_rfl
theorem t325:TT 325 = some q325:=by kernel_rfl
theorem v325:valT 325 = true:=by kernel_rfl
theorem t326:TT 326 = some q326:=by kernel_rfl
theorem v326:valT 326 = true:=by kernel_rfl
theorem t338:TT 338 = some q338:=by kernel_rfl
theorem v338:valT 338 = true:=by kernel_rfl
theorem t341:TT 341 = some q341:=by kernel_rfl
theorem v341:valT 341 = true:=by kernel_rfl
theorem t342:TT 342 = some q342:=by kernel_rfl
theorem v342:valT 342 = true:=by kernel_rfl
theorem t370:TT 370 = some q370:=by kernel_rfl
theorem v370:valT 370 = true:=by kernel_rfl
theorem t371:TT 371 = some q371:=by kernel_rfl
theorem v371:valT 371 = true:=by kernel_rfl
theorem t372:TT 372 = some q372:=by kernel_rfl
theorem v372:valT 372 = true:=by kernel_rfl
theorem t380:TT 380 = some q380:=by kernel_rfl
theorem v380:valT 380 = false:=by kernel_rfl
theorem t381:TT 381 = some q381:=by kernel_rfl
theorem v381:valT 381 = false:=by kernel_rfl
theorem t382:TT 382 = some q382:=by kernel_rfl
theorem v382:valT 382 = true:=by kernel_rfl
theorem t383:TT 383 = some q383:=by kernel_rfl
theorem v383:valT 383 = true:=by kernel_rfl
theorem t384:TT 384 = some q384:=by kernel_rfl
theorem v384:valT 384 = true:=by kernel_rfl
theorem t386:TT 386 = some q386:=by kernel_rfl
theorem v386:valT 386 = true:=by kernel_rfl
theorem t387:TT 387 = some q387:=by kernel_rfl
theorem v387:valT 387 = true:=by kernel_rfl
theorem t435:TT 435 = some q435:=by kernel_rfl
theorem v435:valT 435 = false:=by kernel_rfl
theorem t436:TT 436 = some q436:=by kernel_rfl
theorem v436:valT 436 = false:=by kernel_rfl
theorem t437:TT 437 = some q437:=by kernel_rfl
theorem v437:valT 437 = false:=by kernel_rfl
theorem t438:TT 438 = some q438:=by kernel_rfl
theorem v438:valT 438 = true:=by kernel_rfl
theorem t439:TT 439 = some q439:=by kernel_rfl
theorem v439:valT 439 = true:=by kernel_rfl
theorem t440:TT 440 = some q440:=by kernel_rfl
theorem v440:valT 440 = true:=by kernel_rfl
theorem t441:TT 441 = some q441:=by kernel_rfl
theorem v441:valT 441 = false:=by kernel_rfl
theorem t442:TT 442 = some q442:=by kernel_rfl
theorem v442:valT 442 = false:=by kernel_rfl
theorem t444:TT 444 = some q444:=by kernel_rfl
theorem v444:valT 444 = true:=by kernel_rfl
theorem t446:TT 446 = some q446:=by kernel_rfl
theorem v446:valT 446 = false:=by kernel_rfl
theorem t447:TT 447 = some q447:=by kernel_rfl
theorem v447:valT 447 = false:=by kernel_rfl
theorem t448:TT 448 = some q448:=by kernel_rfl
theorem v448:valT 448 = true:=by kernel_rfl
theorem t465:TT 465 = some q465:=by kernel_rfl
theorem v465:valT 465 = false:=by kernel_rfl
theorem t466:TT 466 = some q466:=by kernel_rfl
theorem v466:valT 466 = false:=by kernel_rfl
theorem t467:TT 467 = some q467:=by kernel_rfl
theorem v467:valT 467 = false:=by kernel_rfl
theorem t468:TT 468 = some q468:=by kernel_rfl
theorem v468:valT 468 = true:=by kernel_rfl
theorem t469:TT 469 = some q469:=by kernel_rfl
theorem v469:valT 469 = false:=by kernel_rfl
theorem t470:TT 470 = some q470:=by kernel_rfl
theorem v470:valT 470 = false:=by kernel_rfl
theorem t471:TT 471 = some q471:=by kernel_rfl
theorem v471:valT 471 = true:=by kernel_rfl
theorem t472:TT 472 = some q472:=by kernel_rfl
theorem v472:valT 472 = false:=by kernel_rfl
theorem t474:TT 474 = some q474:=by kernel_rfl
theorem v474:valT 474 = false:=by kernel_rfl
theorem t475:TT 475 = some q475:=by kernel_rfl
theorem v475:valT 475 = false:=by kernel_rfl
theorem t476:TT 476 = some q476:=by kernel_rfl
theorem v476:valT 476 = false:=by kernel_rfl
theorem t477:TT 477 = some q477:=by kernel_rfl
theorem v477:valT 477 = true:=by kernel_rfl
theorem t483:TT 483 = some q483:=by kernel_rfl
theorem v483:valT 483 = false:=by kernel_rfl
theorem t484:TT 484 = some q484:=by kernel_rfl
theorem v484:valT 484 = false:=by kernel_rfl
theorem t485:TT 485 = some q485:=by kernel_rfl
theorem v485:valT 485 = false:=by kernel_rfl
theorem t486:TT 486 = some q486:=by kernel_rfl
theorem v486:valT 486 = true:=by kernel_rfl
theorem t487:TT 487 = some q487:=by kernel_rfl
theorem v487:valT 487 = false:=by kernel_rfl
theorem t497:TT 497 = some q497:=by kernel_rfl
theorem v497:valT 497 = false:=by kernel_rfl
theorem t498:TT 498 = some q498:=by kernel_rfl
theorem v498:valT 498 = false:=by kernel_rfl
theorem tabT_ok:TabA Tryz.prog TT:=lookT_ok (by
 simp only [tabT,List.mem_cons,List.not_mem_nil,or_false]
 rintro p (rfl | rfl | rfl | rfl | rfl | rfl | rfl | rfl | rfl | rfl | rfl | rfl | rfl | rfl | rfl | rfl | rfl | rfl | rfl | rfl | rfl | rfl | rfl | rfl | rfl | rfl | rfl | rfl | rfl | rfl | rfl | rfl | rfl | rfl | rfl | rfl | rfl | rfl | rfl | rfl | rfl | rfl | rfl | rfl | rfl | rfl | rfl | rfl | rfl | rfl | rfl | rfl | rfl | rfl | rfl | rfl | rfl | rfl | rfl | rfl | rfl | rfl | rfl)
 · exact ok31
 · exact ok70
 · exact ok87
 · exact ok113
 · exact ok117
 · exact ok185
 · exact ok230
 · exact ok231
 · exact ok232
 · exact ok241
 · exact ok263
 · exact ok299
 · exact ok305
 · exact ok321
 · exact ok322
 · exact ok323
 · exact ok324
 · exact ok325
 · exact ok326
 · exact ok338
 · exact ok341
 · exact ok342
 · exact ok370
 · exact ok371
 · exact ok372
 · exact ok380
 · exact ok381
 · exact ok382
 · exact ok383
 · exact ok384
 · exact ok386
 · exact ok387
 · exact ok435
 · exact ok436
 · exact ok437
 · exact ok438
 · exact ok439
 · exact ok440
 · exact ok441
 · exact ok442
 · exact ok444
 · exact ok446
 · exact ok447
 · exact ok448
 · exact ok465
 · exact ok466
 · exact ok467
 · exact ok468
 · exact ok469
 · exact ok470
 · exact ok471
 · exact ok472
 · exact ok474
 · exact ok475
 · exact ok476
 · exact ok477
 · exact ok483
 · exact ok484
 · exact ok485
 · exact ok486
 · exact ok487
 · exact ok497
 · exact ok498)
end Go.Proofs.YtmnfjejphmmddaaGreat
