/- The table of functions; which of them go by value. -/
import Derived.Test.YtmahnnnccohccaaGreatF8
import Derived.Test.YtmahnnnccohccaaGreatF7
import Derived.Test.YtmahnnnccohccaaGreatF6
import Derived.Test.YtmahnnnccohccaaGreatGd
import Derived.KernelRfl
set_option maxRecDepth 100000
namespace Go.Proofs.YtmahnnnccohccaaGreat
def tabT:List (Nat × QF):=[(31,q31),(57,q70),(120,q87),(245,q113),(137,q117),(275,q185),(402,q230),(403,q231),(315,q232),(323,q241),(378,q263),(422,q299),(428,q305),(477,q321),(478,q322),(479,q323),(480,q324),(481,q325),(482,q326),(447,q338),(462,q341),(463,q342),(548,q370),(549,q371),(550,q372),(532,q380),(533,q381),(534,q382),(535,q383),(536,q384),(538,q386),(539,q387),(571,q435),(572,q436),(573,q437),(574,q438),(575,q439),(576,q440),(577,q441),(578,q442),(580,q444),(582,q446),(583,q447),(584,q448),(596,q465),(597,q466),(598,q467),(599,q468),(600,q469),(601,q470),(602,q471),(603,q472),(605,q474),(606,q475),(607,q476),(608,q477),(613,q483),(614,q484),(615,q485),(616,q486),(617,q487),(627,q497),(628,q498)]
def TT:FuncId -> Option QF:=lookT tabT
def valT (f:FuncId):Bool:=[31,57,120,245,137,275,402,403,315,323,378,422,428,477,478,479,480,481,482,447,462,463,548,549,550,534,535,536,538,539,574,575,576,580,584,599,602,608,616].any fun n=>Nat.beq n f
theorem t31:TT 31 = some q31:=by kernel_rfl
theorem v31:valT 31 = true:=by kernel_rfl
theorem t70:TT 57 = some q70:=by kernel_rfl
theorem v70:valT 57 = true:=by kernel_rfl
theorem t87:TT 120 = some q87:=by kernel_rfl
theorem v87:valT 120 = true:=by kernel_rfl
theorem t113:TT 245 = some q113:=by kernel_rfl
theorem v113:valT 245 = true:=by kernel_rfl
theorem t117:TT 137 = some q117:=by kernel_rfl
theorem v117:valT 137 = true:=by kernel_rfl
theorem t185:TT 275 = some q185:=by kernel_rfl
theorem v185:valT 275 = true:=by kernel_rfl
theorem t230:TT 402 = some q230:=by kernel_rfl
theorem v230:valT 402 = true:=by kernel_rfl
theorem t231:TT 403 = some q231:=by kernel_rfl
theorem v231:valT 403 = true:=by kernel_rfl
theorem t232:TT 315 = some q232:=by kernel_rfl
theorem v232:valT 315 = true:=by kernel_rfl
theorem t241:TT 323 = some q241:=by kernel_rfl
theorem v241:valT 323 = true:=by kernel_rfl
theorem t263:TT 378 = some q263:=by kernel_rfl
theorem v263:valT 378 = true:=by kernel_rfl
theorem t299:TT 422 = some q299:=by kernel_rfl
theorem v299:valT 422 = true:=by kernel_rfl
theorem t305:TT 428 = some q305:=by kernel_rfl
theorem v305:valT 428 = true:=by kernel_rfl
theorem t321:TT 477 = some q321:=by kernel_rfl
theorem v321:valT 477 = true:=by kernel_rfl
theorem t322:TT 478 = some q322:=by kernel_rfl
theorem v322:valT 478 = true:=by kernel_rfl
theorem t323:TT 479 = some q323:=by kernel_rfl
theorem v323:valT 479 = true:=by kernel_rfl
theorem t324:TT 480 = some q324:=by kernel_rfl
theorem v324:valT 480 = true:=by kernel_rfl
theorem t325:TT 481 = some q325:=by kernel_rfl
theorem v325:valT 481 = true:=by kernel_rfl
theorem t326:TT 482 = some q326:=by kernel_rfl
theorem v326:valT 482 = true:=by kernel_rfl
theorem t338:TT 447 = some q338:=by kernel_rfl
theorem v338:valT 447 = true:=by kernel_rfl
theorem t341:TT 462 = some q341:=by kernel_rfl
theorem v341:valT 462 = true:=by kernel_rfl
theorem t342:TT 463 = some q342:=by kernel_rfl
theorem v342:valT 463 = true:=by kernel_rfl
theorem t370:TT 548 = some q370:=by kernel_rfl
theorem v370:valT 548 = true:=by kernel_rfl
theorem t371:TT 549 = some q371:=by kernel_rfl
theorem v371:valT 549 = true:=by kernel_rfl
theorem t372:TT 550 = some q372:=by kernel_rfl
theorem v372:valT 550 = true:=by kernel_rfl
theorem t380:TT 532 = some q380:=by kernel_rfl
theorem v380:valT 532 = false:=by kernel_rfl
theorem t381:TT 533 = some q381:=by kernel_rfl
theorem v381:valT 533 = false:=by kernel_rfl
theorem t382:TT 534 = some q382:=by kernel_rfl
theorem v382:valT 534 = true:=by kernel_rfl
theorem t383:TT 535 = some q383:=by kernel_rfl
theorem v383:valT 535 = true:=by kernel_rfl
theorem t384:TT 536 = some q384:=by kernel_rfl
theorem v384:valT 536 = true:=by kernel_rfl
theorem t386:TT 538 = some q386:=by kernel_rfl
theorem v386:valT 538 = true:=by kernel_rfl
theorem t387:TT 539 = some q387:=by kernel_rfl
theorem v387:valT 539 = true:=by kernel_rfl
theorem t435:TT 571 = some q435:=by kernel_rfl
theorem v435:valT 571 = false:=by kernel_rfl
theorem t436:TT 572 = some q436:=by kernel_rfl
theorem v436:valT 572 = false:=by kernel_rfl
theorem t437:TT 573 = some q437:=by kernel_rfl
theorem v437:valT 573 = false:=by kernel_rfl
theorem t438:TT 574 = some q438:=by kernel_rfl
theorem v438:valT 574 = true:=by kernel_rfl
theorem t439:TT 575 = some q439:=by kernel_rfl
theorem v439:valT 575 = true:=by kernel_rfl
theorem t440:TT 576 = some q440:=by kernel_rfl
theorem v440:valT 576 = true:=by kernel_rfl
theorem t441:TT 577 = some q441:=by kernel_rfl
theorem v441:valT 577 = false:=by kernel_rfl
theorem t442:TT 578 = some q442:=by kernel_rfl
theorem v442:valT 578 = false:=by kernel_rfl
theorem t444:TT 580 = some q444:=by kernel_rfl
theorem v444:valT 580 = true:=by kernel_rfl
theorem t446:TT 582 = some q446:=by kernel_rfl
theorem v446:valT 582 = false:=by kernel_rfl
theorem t447:TT 583 = some q447:=by kernel_rfl
theorem v447:valT 583 = false:=by kernel_rfl
theorem t448:TT 584 = some q448:=by kernel_rfl
theorem v448:valT 584 = true:=by kernel_rfl
theorem t465:TT 596 = some q465:=by kernel_rfl
theorem v465:valT 596 = false:=by kernel_rfl
theorem t466:TT 597 = some q466:=by kernel_rfl
theorem v466:valT 597 = false:=by kernel_rfl
theorem t467:TT 598 = some q467:=by kernel_rfl
theorem v467:valT 598 = false:=by kernel_rfl
theorem t468:TT 599 = some q468:=by kernel_rfl
theorem v468:valT 599 = true:=by kernel_rfl
theorem t469:TT 600 = some q469:=by kernel_rfl
theorem v469:valT 600 = false:=by kernel_rfl
theorem t470:TT 601 = some q470:=by kernel_rfl
theorem v470:valT 601 = false:=by kernel_rfl
theorem t471:TT 602 = some q471:=by kernel_rfl
theorem v471:valT 602 = true:=by kernel_rfl
theorem t472:TT 603 = some q472:=by kernel_rfl
theorem v472:valT 603 = false:=by kernel_rfl
theorem t474:TT 605 = some q474:=by kernel_rfl
theorem v474:valT 605 = false:=by kernel_rfl
theorem t475:TT 606 = some q475:=by kernel_rfl
theorem v475:valT 606 = false:=by kernel_rfl
theorem t476:TT 607 = some q476:=by kernel_rfl
theorem v476:valT 607 = false:=by kernel_rfl
theorem t477:TT 608 = some q477:=by kernel_rfl
theorem v477:valT 608 = true:=by kernel_rfl
theorem t483:TT 613 = some q483:=by kernel_rfl
theorem v483:valT 613 = false:=by kernel_rfl
theorem t484:TT 614 = some q484:=by kernel_rfl
theorem v484:valT 614 = false:=by kernel_rfl
theorem t485:TT 615 = some q485:=by kernel_rfl
theorem v485:valT 615 = false:=by kernel_rfl
theorem t486:TT 616 = some q486:=by kernel_rfl
theorem v486:valT 616 = true:=by kernel_rfl
theorem t487:TT 617 = some q487:=by kernel_rfl
theorem v487:valT 617 = false:=by kernel_rfl
theorem t497:TT 627 = some q497:=by kernel_rfl
theorem v497:valT 627 = false:=by kernel_rfl
theorem t498:TT 628 = some q498:=by kernel_rfl
theorem v498:valT 628 = false:=by kernel_rfl
theorem tabT_ok:TabA Tryz.prog TT:=lookT_ok (by
 simp only [tabT,List.mem_cons,List.not_mem_nil,or_false]
 rintro p (rfl | rfl | rfl | rfl | rfl | rfl | rfl | rfl | rfl | rfl | rfl | rfl | rfl | rfl | rfl | rfl | rfl | rfl | rfl | rfl | rfl | rfl | rfl | rfl | rfl | rfl | rfl | rfl | rfl | rfl | rfl | rfl | rfl | rfl | rfl | rfl | rfl | rfl | rfl | rfl | rfl | rfl | rfl | rfl | rfl | rfl | rfl | rfl | rfl | rfl | rfl | rfl | rfl | rfl | rfl | rfl | rfl | rfl | rfl | rfl | rfl | rfl | rfl)
 · exact ok31
 · exact ok70
 · exact ok87
 · exact ok113
 · exact ok117
 · exact ok185
 · exact ok230
 · exact ok231
 · exact ok232
 · exact ok241
 · exact ok263
 · exact ok299
 · exact ok305
 · exact ok321
 · exact ok322
 · exact ok323
 · exact ok324
 · exact ok325
 · exact ok326
 · exact ok338
 · exact ok341
 · exact ok342
 · exact ok370
 · exact ok371
 · exact ok372
 · exact ok380
 · exact ok381
 · exact ok382
 · exact ok383
 · exact ok384
 · exact ok386
 · exact ok387
 · exact ok435
 · exact ok436
 · exact ok437
 · exact ok438
 · exact ok439
 · exact ok440
 · exact ok441
 · exact ok442
 · exact ok444
 · exact ok446
 · exact ok447
 · exact ok448
 · exact ok465
 · exact ok466
 · exact ok467
 · exact ok468
 · exact ok469
 · exact ok470
 · exact ok471
 · exact ok472
 · exact ok474
 · exact ok475
 · exact ok476
 · exact ok477
 · exact ok483
 · exact ok484
 · exact ok485
 · exact ok486
 · exact ok487
 · exact ok497
 · exact ok498)
end Go.Proofs.YtmahnnnccohccaaGreat
