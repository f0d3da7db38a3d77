/- slices.Sort at ints lies in the program: the functions and types that its contract speaks of, each compared. -/
import Derived.Test.YtjkfknafpgfchaaGreatProg
import Derived.Shelf.Lays
import Derived.KernelRfl
import Derived.Shelf.SlGeneric
import Derived.Shelf.SlLaysF0
import Derived.WalkKit
import Derived.Test.YtjkfknafpgfchaaGreatYd
import Derived.Test.YtjkfknafpgfchaaGreatWo
import Derived.Shelf.SlSortCmp.WholeK
set_option maxRecDepth 100000
set_option linter.unusedVariables false
set_option linter.unusedSimpArgs false
namespace Go.Proofs.YtjkfknafpgfchaaGreat
section
open Go.Shelf
def Gw:Go.Shelf.Ren:=⟨fun | 125=>175 | 128=>260 | 129=>208 | 189=>362 | 215=>433 | 216=>421 | 257=>397 | 294=>415 | 295=>416 | 296=>417 | 297=>418 | 298=>419 | 299=>420 | 300=>422 | 301=>423 | 328=>430 | 329=>346 | 330=>347 | 331=>431 | 332=>432 | 343=>434 | n=>n,fun | 0=>0 | 3=>3 | 4=>4 | 5=>5 | 9=>9 | 28=>199 | 46=>172 | 51=>52 | 53=>22 | 131=>274 | 182=>268 | 183=>269 | 218=>338 | 222=>341 | 228=>373 | 229=>374 | n=>n,fun n=>n⟩
theorem KQ:Lays.n189 Tryz.prog Gw:={
 mixed:=by kernel_rfl,
 f125:=Tryz.func175.trans (congrArg some (by kernel_rfl)),
 f128:=Tryz.func260.trans (congrArg some (by kernel_rfl)),
 f129:=Tryz.func208.trans (congrArg some (by kernel_rfl)),
 f189:=Tryz.func362.trans (congrArg some (by kernel_rfl)),
 f215:=Tryz.func433.trans (congrArg some (by kernel_rfl)),
 f216:=Tryz.func421.trans (congrArg some (by kernel_rfl)),
 f257:=Tryz.func397.trans (congrArg some (by kernel_rfl)),
 f294:=Tryz.func415.trans (congrArg some (by kernel_rfl)),
 f295:=Tryz.func416.trans (congrArg some (by kernel_rfl)),
 f296:=Tryz.func417.trans (congrArg some (by kernel_rfl)),
 f297:=Tryz.func418.trans (congrArg some (by kernel_rfl)),
 f298:=Tryz.func419.trans (congrArg some (by kernel_rfl)),
 f299:=Tryz.func420.trans (congrArg some (by kernel_rfl)),
 f300:=Tryz.func422.trans (congrArg some (by kernel_rfl)),
 f301:=Tryz.func423.trans (congrArg some (by kernel_rfl)),
 f328:=Tryz.func430.trans (congrArg some (by kernel_rfl)),
 f329:=Tryz.func346.trans (congrArg some (by kernel_rfl)),
 f330:=Tryz.func347.trans (congrArg some (by kernel_rfl)),
 f331:=Tryz.func431.trans (congrArg some (by kernel_rfl)),
 f332:=Tryz.func432.trans (congrArg some (by kernel_rfl)),
 f343:=Tryz.func434.trans (congrArg some (by kernel_rfl)),
 t0:=Tryz.underlying0,
 a0:=Tryz.isAgg0,
 z0:=Tryz.sizeOf0,
 v0:=Tryz.zeroValue0,
 t3:=Tryz.underlying3,
 a3:=Tryz.isAgg3,
 z3:=Tryz.sizeOf3,
 v3:=Tryz.zeroValue3,
 t4:=Tryz.underlying4,
 a4:=Tryz.isAgg4,
 z4:=Tryz.sizeOf4,
 v4:=Tryz.zeroValue4,
 t5:=Tryz.underlying5,
 a5:=Tryz.isAgg5,
 z5:=Tryz.sizeOf5,
 v5:=Tryz.zeroValue5,
 t9:=Tryz.underlying9,
 a9:=Tryz.isAgg9,
 z9:=Tryz.sizeOf9,
 v9:=Tryz.zeroValue9,
 t28:=Tryz.underlying199,
 a28:=Tryz.isAgg199,
 z28:=Tryz.sizeOf199,
 v28:=Tryz.zeroValue199,
 t46:=Tryz.underlying172,
 a46:=Tryz.isAgg172,
 z46:=Tryz.sizeOf172,
 v46:=Tryz.zeroValue172,
 t51:=Tryz.underlying52,
 a51:=Tryz.isAgg52,
 z51:=Tryz.sizeOf52,
 v51:=Tryz.zeroValue52,
 t53:=Tryz.underlying22,
 a53:=Tryz.isAgg22,
 z53:=Tryz.sizeOf22,
 v53:=Tryz.zeroValue22,
 t131:=Tryz.underlying274,
 a131:=Tryz.isAgg274,
 z131:=Tryz.sizeOf274,
 v131:=Tryz.zeroValue274,
 t182:=Tryz.underlying268,
 a182:=Tryz.isAgg268,
 z182:=Tryz.sizeOf268,
 v182:=Tryz.zeroValue268,
 t183:=Tryz.underlying269,
 a183:=Tryz.isAgg269,
 z183:=Tryz.sizeOf269,
 v183:=Tryz.zeroValue269,
 t218:=Tryz.underlying338,
 a218:=Tryz.isAgg338,
 z218:=Tryz.sizeOf338,
 v218:=Tryz.zeroValue338,
 t222:=Tryz.underlying341,
 a222:=Tryz.isAgg341,
 z222:=Tryz.sizeOf341,
 v222:=Tryz.zeroValue341,
 t228:=Tryz.underlying373,
 a228:=Tryz.isAgg373,
 z228:=Tryz.sizeOf373,
 v228:=Tryz.zeroValue373,
 t229:=Tryz.underlying374,
 a229:=Tryz.isAgg374,
 z229:=Tryz.sizeOf374,
 v229:=Tryz.zeroValue374 }
end
section
open Go.Shelf
def yO:Go.Shelf.Ren:=⟨fun | 6=>146 | 14=>221 | 15=>175 | 20=>292 | 21=>293 | 22=>294 | 23=>295 | 24=>296 | 25=>297 | 26=>298 | 27=>299 | 28=>260 | 29=>208 | 46=>375 | 47=>346 | 48=>347 | 49=>376 | 50=>377 | 57=>406 | n=>n,fun | 0=>0 | 3=>3 | 4=>4 | 5=>5 | 9=>9 | 22=>24 | 24=>56 | 25=>187 | 39=>172 | 45=>268 | 46=>269 | 50=>274 | 53=>52 | 55=>22 | 66=>338 | 70=>341 | 76=>373 | 77=>374 | n=>n,fun n=>n⟩
theorem NP:SlLaysF0.n6 Tryz.prog yO:={
 mixed:=by kernel_rfl,
 f6:=⟨ "slices.SortFunc[[]gatepost/api.Pod,gatepost/api.Pod]", by decide,Tryz.func146.trans (congrArg some (by kernel_rfl))⟩,
 f14:=⟨ "slices.pdqsortCmpFunc[gatepost/api.Pod]", by decide,Tryz.func221.trans (congrArg some (by kernel_rfl))⟩,
 f15:=Tryz.func175.trans (congrArg some (by kernel_rfl)),
 f20:=⟨ "slices.insertionSortCmpFunc[gatepost/api.Pod]", by decide,Tryz.func292.trans (congrArg some (by kernel_rfl))⟩,
 f21:=⟨ "slices.heapSortCmpFunc[gatepost/api.Pod]", by decide,Tryz.func293.trans (congrArg some (by kernel_rfl))⟩,
 f22:=⟨ "slices.breakPatternsCmpFunc[gatepost/api.Pod]", by decide,Tryz.func294.trans (congrArg some (by kernel_rfl))⟩,
 f23:=⟨ "slices.choosePivotCmpFunc[gatepost/api.Pod]", by decide,Tryz.func295.trans (congrArg some (by kernel_rfl))⟩,
 f24:=⟨ "slices.reverseRangeCmpFunc[gatepost/api.Pod]", by decide,Tryz.func296.trans (congrArg some (by kernel_rfl))⟩,
 f25:=⟨ "slices.partialInsertionSortCmpFunc[gatepost/api.Pod]", by decide,Tryz.func297.trans (congrArg some (by kernel_rfl))⟩,
 f26:=⟨ "slices.partitionEqualCmpFunc[gatepost/api.Pod]", by decide,Tryz.func298.trans (congrArg some (by kernel_rfl))⟩,
 f27:=⟨ "slices.partitionCmpFunc[gatepost/api.Pod]", by decide,Tryz.func299.trans (congrArg some (by kernel_rfl))⟩,
 f28:=Tryz.func260.trans (congrArg some (by kernel_rfl)),
 f29:=Tryz.func208.trans (congrArg some (by kernel_rfl)),
 f46:=⟨ "slices.siftDownCmpFunc[gatepost/api.Pod]", by decide,Tryz.func375.trans (congrArg some (by kernel_rfl))⟩,
 f47:=Tryz.func346.trans (congrArg some (by kernel_rfl)),
 f48:=Tryz.func347.trans (congrArg some (by kernel_rfl)),
 f49:=⟨ "slices.medianAdjacentCmpFunc[gatepost/api.Pod]", by decide,Tryz.func376.trans (congrArg some (by kernel_rfl))⟩,
 f50:=⟨ "slices.medianCmpFunc[gatepost/api.Pod]", by decide,Tryz.func377.trans (congrArg some (by kernel_rfl))⟩,
 f57:=⟨ "slices.order2CmpFunc[gatepost/api.Pod]", by decide,Tryz.func406.trans (congrArg some (by kernel_rfl))⟩,
 t0:=Tryz.underlying0,
 a0:=Tryz.isAgg0,
 z0:=Tryz.sizeOf0,
 v0:=Tryz.zeroValue0,
 t3:=Tryz.underlying3,
 a3:=Tryz.isAgg3,
 z3:=Tryz.sizeOf3,
 v3:=Tryz.zeroValue3,
 t4:=Tryz.underlying4,
 a4:=Tryz.isAgg4,
 z4:=Tryz.sizeOf4,
 v4:=Tryz.zeroValue4,
 t5:=Tryz.underlying5,
 a5:=Tryz.isAgg5,
 z5:=Tryz.sizeOf5,
 v5:=Tryz.zeroValue5,
 t9:=Tryz.underlying9,
 a9:=Tryz.isAgg9,
 z9:=Tryz.sizeOf9,
 v9:=Tryz.zeroValue9,
 t22:=Tryz.underlying24,
 a22:=Tryz.isAgg24,
 z22:=Tryz.sizeOf24,
 v22:=Tryz.zeroValue24,
 t25:=Tryz.underlying187,
 a25:=Tryz.isAgg187,
 z25:=Tryz.sizeOf187,
 v25:=Tryz.zeroValue187,
 t39:=Tryz.underlying172,
 a39:=Tryz.isAgg172,
 z39:=Tryz.sizeOf172,
 v39:=Tryz.zeroValue172,
 t45:=Tryz.underlying268,
 a45:=Tryz.isAgg268,
 z45:=Tryz.sizeOf268,
 v45:=Tryz.zeroValue268,
 t46:=Tryz.underlying269,
 a46:=Tryz.isAgg269,
 z46:=Tryz.sizeOf269,
 v46:=Tryz.zeroValue269,
 t50:=Tryz.underlying274,
 a50:=Tryz.isAgg274,
 z50:=Tryz.sizeOf274,
 v50:=Tryz.zeroValue274,
 t53:=Tryz.underlying52,
 a53:=Tryz.isAgg52,
 z53:=Tryz.sizeOf52,
 v53:=Tryz.zeroValue52,
 t55:=Tryz.underlying22,
 a55:=Tryz.isAgg22,
 z55:=Tryz.sizeOf22,
 v55:=Tryz.zeroValue22,
 t66:=Tryz.underlying338,
 a66:=Tryz.isAgg338,
 z66:=Tryz.sizeOf338,
 v66:=Tryz.zeroValue338,
 t70:=Tryz.underlying341,
 a70:=Tryz.isAgg341,
 z70:=Tryz.sizeOf341,
 v70:=Tryz.zeroValue341,
 t76:=Tryz.underlying373,
 a76:=Tryz.isAgg373,
 z76:=Tryz.sizeOf373,
 v76:=Tryz.zeroValue373,
 t77:=Tryz.underlying374,
 a77:=Tryz.isAgg374,
 z77:=Tryz.sizeOf374,
 v77:=Tryz.zeroValue374 }
def yP:Go.Shelf.Ren:=⟨fun | 6=>151 | 14=>223 | 15=>175 | 20=>300 | 21=>301 | 22=>302 | 23=>303 | 24=>304 | 25=>305 | 26=>306 | 27=>307 | 28=>260 | 29=>208 | 46=>378 | 47=>346 | 48=>347 | 49=>379 | 50=>380 | 57=>407 | n=>n,fun | 0=>0 | 3=>3 | 4=>4 | 5=>5 | 9=>9 | 22=>25 | 24=>58 | 25=>189 | 39=>172 | 45=>268 | 46=>269 | 50=>274 | 53=>52 | 55=>22 | 66=>338 | 70=>341 | 76=>373 | 77=>374 | n=>n,fun n=>n⟩
theorem NQ:SlLaysF0.n6 Tryz.prog yP:={
 mixed:=by kernel_rfl,
 f6:=⟨ "slices.SortFunc[[]gatepost/api.Service,gatepost/api.Service]", by decide,Tryz.func151.trans (congrArg some (by kernel_rfl))⟩,
 f14:=⟨ "slices.pdqsortCmpFunc[gatepost/api.Service]", by decide,Tryz.func223.trans (congrArg some (by kernel_rfl))⟩,
 f15:=Tryz.func175.trans (congrArg some (by kernel_rfl)),
 f20:=⟨ "slices.insertionSortCmpFunc[gatepost/api.Service]", by decide,Tryz.func300.trans (congrArg some (by kernel_rfl))⟩,
 f21:=⟨ "slices.heapSortCmpFunc[gatepost/api.Service]", by decide,Tryz.func301.trans (congrArg some (by kernel_rfl))⟩,
 f22:=⟨ "slices.breakPatternsCmpFunc[gatepost/api.Service]", by decide,Tryz.func302.trans (congrArg some (by kernel_rfl))⟩,
 f23:=⟨ "slices.choosePivotCmpFunc[gatepost/api.Service]", by decide,Tryz.func303.trans (congrArg some (by kernel_rfl))⟩,
 f24:=⟨ "slices.reverseRangeCmpFunc[gatepost/api.Service]", by decide,Tryz.func304.trans (congrArg some (by kernel_rfl))⟩,
 f25:=⟨ "slices.partialInsertionSortCmpFunc[gatepost/api.Service]", by decide,Tryz.func305.trans (congrArg some (by kernel_rfl))⟩,
 f26:=⟨ "slices.partitionEqualCmpFunc[gatepost/api.Service]", by decide,Tryz.func306.trans (congrArg some (by kernel_rfl))⟩,
 f27:=⟨ "slices.partitionCmpFunc[gatepost/api.Service]", by decide,Tryz.func307.trans (congrArg some (by kernel_rfl))⟩,
 f28:=Tryz.func260.trans (congrArg some (by kernel_rfl)),
 f29:=Tryz.func208.trans (congrArg some (by kernel_rfl)),
 f46:=⟨ "slices.siftDownCmpFunc[gatepost/api.Service]", by decide,Tryz.func378.trans (congrArg some (by kernel_rfl))⟩,
 f47:=Tryz.func346.trans (congrArg some (by kernel_rfl)),
 f48:=Tryz.func347.trans (congrArg some (by kernel_rfl)),
 f49:=⟨ "slices.medianAdjacentCmpFunc[gatepost/api.Service]", by decide,Tryz.func379.trans (congrArg some (by kernel_rfl))⟩,
 f50:=⟨ "slices.medianCmpFunc[gatepost/api.Service]", by decide,Tryz.func380.trans (congrArg some (by kernel_rfl))⟩,
 f57:=⟨ "slices.order2CmpFunc[gatepost/api.Service]", by decide,Tryz.func407.trans (congrArg some (by kernel_rfl))⟩,
 t0:=Tryz.underlying0,
 a0:=Tryz.isAgg0,
 z0:=Tryz.sizeOf0,
 v0:=Tryz.zeroValue0,
 t3:=Tryz.underlying3,
 a3:=Tryz.isAgg3,
 z3:=Tryz.sizeOf3,
 v3:=Tryz.zeroValue3,
 t4:=Tryz.underlying4,
 a4:=Tryz.isAgg4,
 z4:=Tryz.sizeOf4,
 v4:=Tryz.zeroValue4,
 t5:=Tryz.underlying5,
 a5:=Tryz.isAgg5,
 z5:=Tryz.sizeOf5,
 v5:=Tryz.zeroValue5,
 t9:=Tryz.underlying9,
 a9:=Tryz.isAgg9,
 z9:=Tryz.sizeOf9,
 v9:=Tryz.zeroValue9,
 t22:=Tryz.underlying25,
 a22:=Tryz.isAgg25,
 z22:=Tryz.sizeOf25,
 v22:=Tryz.zeroValue25,
 t25:=Tryz.underlying189,
 a25:=Tryz.isAgg189,
 z25:=Tryz.sizeOf189,
 v25:=Tryz.zeroValue189,
 t39:=Tryz.underlying172,
 a39:=Tryz.isAgg172,
 z39:=Tryz.sizeOf172,
 v39:=Tryz.zeroValue172,
 t45:=Tryz.underlying268,
 a45:=Tryz.isAgg268,
 z45:=Tryz.sizeOf268,
 v45:=Tryz.zeroValue268,
 t46:=Tryz.underlying269,
 a46:=Tryz.isAgg269,
 z46:=Tryz.sizeOf269,
 v46:=Tryz.zeroValue269,
 t50:=Tryz.underlying274,
 a50:=Tryz.isAgg274,
 z50:=Tryz.sizeOf274,
 v50:=Tryz.zeroValue274,
 t53:=Tryz.underlying52,
 a53:=Tryz.isAgg52,
 z53:=Tryz.sizeOf52,
 v53:=Tryz.zeroValue52,
 t55:=Tryz.underlying22,
 a55:=Tryz.isAgg22,
 z55:=Tryz.sizeOf22,
 v55:=Tryz.zeroValue22,
 t66:=Tryz.underlying338,
 a66:=Tryz.isAgg338,
 z66:=Tryz.sizeOf338,
 v66:=Tryz.zeroValue338,
 t70:=Tryz.underlying341,
 a70:=Tryz.isAgg341,
 z70:=Tryz.sizeOf341,
 v70:=Tryz.zeroValue341,
 t76:=Tryz.underlying373,
 a76:=Tryz.isAgg373,
 z76:=Tryz.sizeOf373,
 v76:=Tryz.zeroValue373,
 t77:=Tryz.underlying374,
 a77:=Tryz.isAgg374,
 z77:=Tryz.sizeOf374,
 v77:=Tryz.zeroValue374 }
def yQ:Go.Shelf.Ren:=⟨fun | 6=>155 | 14=>224 | 15=>175 | 20=>308 | 21=>309 | 22=>310 | 23=>311 | 24=>312 | 25=>313 | 26=>314 | 27=>315 | 28=>260 | 29=>208 | 46=>381 | 47=>346 | 48=>347 | 49=>382 | 50=>383 | 57=>408 | n=>n,fun | 0=>0 | 3=>3 | 4=>4 | 5=>5 | 9=>9 | 22=>26 | 24=>60 | 25=>191 | 39=>172 | 45=>268 | 46=>269 | 50=>274 | 53=>52 | 55=>22 | 66=>338 | 70=>341 | 76=>373 | 77=>374 | n=>n,fun n=>n⟩
theorem NR:SlLaysF0.n6 Tryz.prog yQ:={
 mixed:=by kernel_rfl,
 f6:=⟨ "slices.SortFunc[[]gatepost/api.Way,gatepost/api.Way]", by decide,Tryz.func155.trans (congrArg some (by kernel_rfl))⟩,
 f14:=⟨ "slices.pdqsortCmpFunc[gatepost/api.Way]", by decide,Tryz.func224.trans (congrArg some (by kernel_rfl))⟩,
 f15:=Tryz.func175.trans (congrArg some (by kernel_rfl)),
 f20:=⟨ "slices.insertionSortCmpFunc[gatepost/api.Way]", by decide,Tryz.func308.trans (congrArg some (by kernel_rfl))⟩,
 f21:=⟨ "slices.heapSortCmpFunc[gatepost/api.Way]", by decide,Tryz.func309.trans (congrArg some (by kernel_rfl))⟩,
 f22:=⟨ "slices.breakPatternsCmpFunc[gatepost/api.Way]", by decide,Tryz.func310.trans (congrArg some (by kernel_rfl))⟩,
 f23:=⟨ "slices.choosePivotCmpFunc[gatepost/api.Way]", by decide,Tryz.func311.trans (congrArg some (by kernel_rfl))⟩,
 f24:=⟨ "slices.reverseRangeCmpFunc[gatepost/api.Way]", by decide,Tryz.func312.trans (congrArg some (by kernel_rfl))⟩,
 f25:=⟨ "slices.partialInsertionSortCmpFunc[gatepost/api.Way]", by decide,Tryz.func313.trans (congrArg some (by kernel_rfl))⟩,
 f26:=⟨ "slices.partitionEqualCmpFunc[gatepost/api.Way]", by decide,Tryz.func314.trans (congrArg some (by kernel_rfl))⟩,
 f27:=⟨ "slices.partitionCmpFunc[gatepost/api.Way]", by decide,Tryz.func315.trans (congrArg some (by kernel_rfl))⟩,
 f28:=Tryz.func260.trans (congrArg some (by kernel_rfl)),
 f29:=Tryz.func208.trans (congrArg some (by kernel_rfl)),
 f46:=⟨ "slices.siftDownCmpFunc[gatepost/api.Way]", by decide,Tryz.func381.trans (congrArg some (by kernel_rfl))⟩,
 f47:=Tryz.func346.trans (congrArg some (by kernel_rfl)),
 f48:=Tryz.func347.trans (congrArg some (by kernel_rfl)),
 f49:=⟨ "slices.medianAdjacentCmpFunc[gatepost/api.Way]", by decide,Tryz.func382.trans (congrArg some (by kernel_rfl))⟩,
 f50:=⟨ "slices.medianCmpFunc[gatepost/api.Way]", by decide,Tryz.func383.trans (congrArg some (by kernel_rfl))⟩,
 f57:=⟨ "slices.order2CmpFunc[gatepost/api.Way]", by decide,Tryz.func408.trans (congrArg some (by kernel_rfl))⟩,
 t0:=Tryz.underlying0,
 a0:=Tryz.isAgg0,
 z0:=Tryz.sizeOf0,
 v0:=Tryz.zeroValue0,
 t3:=Tryz.underlying3,
 a3:=Tryz.isAgg3,
 z3:=Tryz.sizeOf3,
 v3:=Tryz.zeroValue3,
 t4:=Tryz.underlying4,
 a4:=Tryz.isAgg4,
 z4:=Tryz.sizeOf4,
 v4:=Tryz.zeroValue4,
 t5:=Tryz.underlying5,
 a5:=Tryz.isAgg5,
 z5:=Tryz.sizeOf5,
 v5:=Tryz.zeroValue5,
 t9:=Tryz.underlying9,
 a9:=Tryz.isAgg9,
 z9:=Tryz.sizeOf9,
 v9:=Tryz.zeroValue9,
 t22:=Tryz.underlying26,
 a22:=Tryz.isAgg26,
 z22:=Tryz.sizeOf26,
 v22:=Tryz.zeroValue26,
 t25:=Tryz.underlying191,
 a25:=Tryz.isAgg191,
 z25:=Tryz.sizeOf191,
 v25:=Tryz.zeroValue191,
 t39:=Tryz.underlying172,
 a39:=Tryz.isAgg172,
 z39:=Tryz.sizeOf172,
 v39:=Tryz.zeroValue172,
 t45:=Tryz.underlying268,
 a45:=Tryz.isAgg268,
 z45:=Tryz.sizeOf268,
 v45:=Tryz.zeroValue268,
 t46:=Tryz.underlying269,
 a46:=Tryz.isAgg269,
 z46:=Tryz.sizeOf269,
 v46:=Tryz.zeroValue269,
 t50:=Tryz.underlying274,
 a50:=Tryz.isAgg274,
 z50:=Tryz.sizeOf274,
 v50:=Tryz.zeroValue274,
 t53:=Tryz.underlying52,
 a53:=Tryz.isAgg52,
 z53:=Tryz.sizeOf52,
 v53:=Tryz.zeroValue52,
 t55:=Tryz.underlying22,
 a55:=Tryz.isAgg22,
 z55:=Tryz.sizeOf22,
 v55:=Tryz.zeroValue22,
 t66:=Tryz.underlying338,
 a66:=Tryz.isAgg338,
 z66:=Tryz.sizeOf338,
 v66:=Tryz.zeroValue338,
 t70:=Tryz.underlying341,
 a70:=Tryz.isAgg341,
 z70:=Tryz.sizeOf341,
 v70:=Tryz.zeroValue341,
 t76:=Tryz.underlying373,
 a76:=Tryz.isAgg373,
 z76:=Tryz.sizeOf373,
 v76:=Tryz.zeroValue373,
 t77:=Tryz.underlying374,
 a77:=Tryz.isAgg374,
 z77:=Tryz.sizeOf374,
 v77:=Tryz.zeroValue374 }
def yR:Go.Shelf.Ren:=⟨fun | 6=>159 | 14=>225 | 15=>175 | 20=>316 | 21=>317 | 22=>318 | 23=>319 | 24=>320 | 25=>321 | 26=>322 | 27=>323 | 28=>260 | 29=>208 | 46=>384 | 47=>346 | 48=>347 | 49=>385 | 50=>386 | 57=>409 | n=>n,fun | 0=>0 | 3=>3 | 4=>4 | 5=>5 | 9=>9 | 22=>27 | 24=>81 | 25=>193 | 39=>172 | 45=>268 | 46=>269 | 50=>274 | 53=>52 | 55=>22 | 66=>338 | 70=>341 | 76=>373 | 77=>374 | n=>n,fun n=>n⟩
theorem NS:SlLaysF0.n6 Tryz.prog yR:={
 mixed:=by kernel_rfl,
 f6:=⟨ "slices.SortFunc[[]gatepost/api.Policy,gatepost/api.Policy]", by decide,Tryz.func159.trans (congrArg some (by kernel_rfl))⟩,
 f14:=⟨ "slices.pdqsortCmpFunc[gatepost/api.Policy]", by decide,Tryz.func225.trans (congrArg some (by kernel_rfl))⟩,
 f15:=Tryz.func175.trans (congrArg some (by kernel_rfl)),
 f20:=⟨ "slices.insertionSortCmpFunc[gatepost/api.Policy]", by decide,Tryz.func316.trans (congrArg some (by kernel_rfl))⟩,
 f21:=⟨ "slices.heapSortCmpFunc[gatepost/api.Policy]", by decide,Tryz.func317.trans (congrArg some (by kernel_rfl))⟩,
 f22:=⟨ "slices.breakPatternsCmpFunc[gatepost/api.Policy]", by decide,Tryz.func318.trans (congrArg some (by kernel_rfl))⟩,
 f23:=⟨ "slices.choosePivotCmpFunc[gatepost/api.Policy]", by decide,Tryz.func319.trans (congrArg some (by kernel_rfl))⟩,
 f24:=⟨ "slices.reverseRangeCmpFunc[gatepost/api.Policy]", by decide,Tryz.func320.trans (congrArg some (by kernel_rfl))⟩,
 f25:=⟨ "slices.partialInsertionSortCmpFunc[gatepost/api.Policy]", by decide,Tryz.func321.trans (congrArg some (by kernel_rfl))⟩,
 f26:=⟨ "slices.partitionEqualCmpFunc[gatepost/api.Policy]", by decide,Tryz.func322.trans (congrArg some (by kernel_rfl))⟩,
 f27:=⟨ "slices.partitionCmpFunc[gatepost/api.Policy]", by decide,Tryz.func323.trans (congrArg some (by kernel_rfl))⟩,
 f28:=Tryz.func260.trans (congrArg some (by kernel_rfl)),
 f29:=Tryz.func208.trans (congrArg some (by kernel_rfl)),
 f46:=⟨ "slices.siftDownCmpFunc[gatepost/api.Policy]", by decide,Tryz.func384.trans (congrArg some (by kernel_rfl))⟩,
 f47:=Tryz.func346.trans (congrArg some (by kernel_rfl)),
 f48:=Tryz.func347.trans (congrArg some (by kernel_rfl)),
 f49:=⟨ "slices.medianAdjacentCmpFunc[gatepost/api.Policy]", by decide,Tryz.func385.trans (congrArg some (by kernel_rfl))⟩,
 f50:=⟨ "slices.medianCmpFunc[gatepost/api.Policy]", by decide,Tryz.func386.trans (congrArg some (by kernel_rfl))⟩,
 f57:=⟨ "slices.order2CmpFunc[gatepost/api.Policy]", by decide,Tryz.func409.trans (congrArg some (by kernel_rfl))⟩,
 t0:=Tryz.underlying0,
 a0:=Tryz.isAgg0,
 z0:=Tryz.sizeOf0,
 v0:=Tryz.zeroValue0,
 t3:=Tryz.underlying3,
 a3:=Tryz.isAgg3,
 z3:=Tryz.sizeOf3,
 v3:=Tryz.zeroValue3,
 t4:=Tryz.underlying4,
 a4:=Tryz.isAgg4,
 z4:=Tryz.sizeOf4,
 v4:=Tryz.zeroValue4,
 t5:=Tryz.underlying5,
 a5:=Tryz.isAgg5,
 z5:=Tryz.sizeOf5,
 v5:=Tryz.zeroValue5,
 t9:=Tryz.underlying9,
 a9:=Tryz.isAgg9,
 z9:=Tryz.sizeOf9,
 v9:=Tryz.zeroValue9,
 t22:=Tryz.underlying27,
 a22:=Tryz.isAgg27,
 z22:=Tryz.sizeOf27,
 v22:=Tryz.zeroValue27,
 t25:=Tryz.underlying193,
 a25:=Tryz.isAgg193,
 z25:=Tryz.sizeOf193,
 v25:=Tryz.zeroValue193,
 t39:=Tryz.underlying172,
 a39:=Tryz.isAgg172,
 z39:=Tryz.sizeOf172,
 v39:=Tryz.zeroValue172,
 t45:=Tryz.underlying268,
 a45:=Tryz.isAgg268,
 z45:=Tryz.sizeOf268,
 v45:=Tryz.zeroValue268,
 t46:=Tryz.underlying269,
 a46:=Tryz.isAgg269,
 z46:=Tryz.sizeOf269,
 v46:=Tryz.zeroValue269,
 t50:=Tryz.underlying274,
 a50:=Tryz.isAgg274,
 z50:=Tryz.sizeOf274,
 v50:=Tryz.zeroValue274,
 t53:=Tryz.underlying52,
 a53:=Tryz.isAgg52,
 z53:=Tryz.sizeOf52,
 v53:=Tryz.zeroValue52,
 t55:=Tryz.underlying22,
 a55:=Tryz.isAgg22,
 z55:=Tryz.sizeOf22,
 v55:=Tryz.zeroValue22,
 t66:=Tryz.underlying338,
 a66:=Tryz.isAgg338,
 z66:=Tryz.sizeOf338,
 v66:=Tryz.zeroValue338,
 t70:=Tryz.underlying341,
 a70:=Tryz.isAgg341,
 z70:=Tryz.sizeOf341,
 v70:=Tryz.zeroValue341,
 t76:=Tryz.underlying373,
 a76:=Tryz.isAgg373,
 z76:=Tryz.sizeOf373,
 v76:=Tryz.zeroValue373,
 t77:=Tryz.underlying374,
 a77:=Tryz.isAgg374,
 z77:=Tryz.sizeOf374,
 v77:=Tryz.zeroValue374 }
end
section
open Go.RowKit Go.Sort Go.Shelf Go.Lib
set_option maxHeartbeats 1000000 in
theorem GH (a:Int) (W:World):Calls Tryz.prog 222 #[.int .u64 a] W fun e w'=>e = .returned (.bool false) /\ w' = W:=by
 go_enter Tryz.func222,Tryz.ntmps222
 go_wp2
 go_ret
 exact ⟨rfl,rfl⟩
def tQ (a b:Int):Int:=if a < b then -1 else if b < a then 1 else 0
set_option maxHeartbeats 2000000 in
theorem vg (a b:Int) (W:World):Calls Tryz.prog 148 #[.int .u64 a,.int .u64 b] W fun e w'=>e = .returned (.int .i64 (tQ a b)) /\ ∃ q,w' = W.drewN q:=by
 have n1:=fun W=>GH a W;have n2:=fun W=>GH b W;unfold tQ;by_cases h1:a < b
 · simp only [h1,if_true]
   go_enter Tryz.func148,Tryz.ntmps148
   go_wp2_with (go_at_call 222; first | (refine (n1 _).mono ?_; rintro e w' ⟨rfl,rfl⟩) | (refine (n2 _).mono ?_; rintro e w' ⟨rfl,rfl⟩))
   go_ret
   exact ⟨rfl,0,rfl⟩
 · by_cases h2:b < a
   · simp only [h1,h2,if_true,if_false]
     go_enter Tryz.func148,Tryz.ntmps148
     go_wp2_with (go_at_call 222; first | (refine (n1 _).mono ?_; rintro e w' ⟨rfl,rfl⟩) | (refine (n2 _).mono ?_; rintro e w' ⟨rfl,rfl⟩))
     go_ret
     exact ⟨rfl,0,rfl⟩
   · simp only [h1,h2,if_false]
     go_enter Tryz.func148,Tryz.ntmps148
     go_wp2_with (go_at_call 222; first | (refine (n1 _).mono ?_; rintro e w' ⟨rfl,rfl⟩) | (refine (n2 _).mono ?_; rintro e w' ⟨rfl,rfl⟩))
     go_ret
     exact ⟨rfl,0,rfl⟩
set_option maxHeartbeats 2000000 in
theorem Yj (k:Int) (v1 v2 v3 v4 v5 v6:Value) (h1:v1.oneCell' = true) (h2:v2.oneCell' = true) (h3:v3.oneCell' = true) (h4:v4.oneCell' = true) (h5:v5.oneCell' = true) (h6:v6.oneCell' = true) (W:World) :
 Calls Tryz.prog 18 #[.agg #[Value.int .u64 k,v1,v2,v3,v4,v5,v6]] W fun e w'=>e = .returned (.int .u64 k) /\ ∃ q os,w' = grow (W.drewN q) os:=by
 go_enter Tryz.func18,Tryz.ntmps18
 go_wp2
 go_ret
 exact ⟨rfl,0,_,by rw [alloc_eq_grow]; rfl⟩
set_option maxHeartbeats 4000000 in
theorem QT (k:Int) (v1 v2 v3 v4 v5 v6:Value) (h1:v1.oneCell' = true) (h2:v2.oneCell' = true) (h3:v3.oneCell' = true) (h4:v4.oneCell' = true) (h5:v5.oneCell' = true) (h6:v6.oneCell' = true) (k':Int) (u1 u2 u3 u4 u5 u6:Value) (g1:u1.oneCell' = true) (g2:u2.oneCell' = true) (g3:u3.oneCell' = true) (g4:u4.oneCell' = true) (g5:u5.oneCell' = true) (g6:u6.oneCell' = true) (c:Nat) (W:World) (hc:W.cell? ⟨c,0,none⟩ = some (.func (.func 18) #[] #[])) (hlt:c < W.heap.size) :
 Calls Tryz.prog 147 #[.agg #[Value.int .u64 k,v1,v2,v3,v4,v5,v6],.agg #[Value.int .u64 k',u1,u2,u3,u4,u5,u6],.pointer (some ⟨c,0,none⟩)] W fun e w'=>e = .returned (.int .i64 (tQ k k')) /\ ∃ q os,w' = grow (W.drewN q) os:=by
 have Hc:=(show Hid _ from hc);have Hn1:=(show Hid _ from fun W=>Yj k v1 v2 v3 v4 v5 v6 h1 h2 h3 h4 h5 h6 W);have Hn2:=(show Hid _ from fun W=>Yj k' u1 u2 u3 u4 u5 u6 g1 g2 g3 g4 g5 g6 W);have Hn3:=(show Hid _ from fun W=>vg k k' W);have mixed:Tryz.prog.follows .mixedOrders = true:=by kernel_rfl
 clear hc;generalize tQ k k' = r at *
 go_enter Tryz.func147,Tryz.ntmps147
 go_wp2_with fail
 have hsz:((W.alloc (Obj.cells #[Value.int .u64 k,v1,v2,v3,v4,v5,v6] 56)).alloc (Obj.cells #[Value.int .u64 k',u1,u2,u3,u4,u5,u6] 56)).heap.size = W.heap.size + 2:=by rw [World.size_alloc,World.size_alloc]
 have lc:∀ n os,(grow (((W.alloc (Obj.cells #[Value.int .u64 k,v1,v2,v3,v4,v5,v6] 56)).alloc (Obj.cells #[Value.int .u64 k',u1,u2,u3,u4,u5,u6] 56)).drewN n) os).cell? ⟨c,0,none⟩ = some (.func (.func 18) #[] #[]):=fun n os=>by
  refine cell_grown (by rw [hsz]; exact Nat.lt_of_lt_of_le hlt (Nat.le_add_right _ _)) ?_ n os;rw [← Hc.out];simp only [World.cell?];rw [Below.heap_alloc _ _ _ (by rw [World.size_alloc]; exact Nat.lt_succ_of_lt hlt),Below.heap_alloc _ _ _ hlt]
 have hb1:((W.alloc (Obj.cells #[Value.int .u64 k,v1,v2,v3,v4,v5,v6] 56)).alloc (Obj.cells #[Value.int .u64 k',u1,u2,u3,u4,u5,u6] 56)).heap[W.heap.size]? = some (Obj.cells #[Value.int .u64 k,v1,v2,v3,v4,v5,v6] 56):=by
  rw [Below.heap_alloc _ _ _ (by rw [World.size_alloc]; exact Nat.lt_succ_self _)];show (W.heap.push _)[W.heap.size]? = _;simp
 have hb2:((W.alloc (Obj.cells #[Value.int .u64 k,v1,v2,v3,v4,v5,v6] 56)).alloc (Obj.cells #[Value.int .u64 k',u1,u2,u3,u4,u5,u6] 56)).heap[W.heap.size + 1]? = some (Obj.cells #[Value.int .u64 k',u1,u2,u3,u4,u5,u6] 56):=by
  show ((W.heap.push _).push _)[W.heap.size + 1]? = _;rw [Array.getElem?_push,if_pos (by simp)]
 have m0:∀ n os,(grow (((W.alloc (Obj.cells #[Value.int .u64 k,v1,v2,v3,v4,v5,v6] 56)).alloc (Obj.cells #[Value.int .u64 k',u1,u2,u3,u4,u5,u6] 56)).drewN n) os).cell? ⟨W.heap.size,0,none⟩ = some (Value.int .u64 k):=fun n os=>cell_grown (by rw [hsz]; show W.heap.size < W.heap.size + 2; omega) (by simp only [World.cell?,hb1]; rfl) n os;have m1:∀ n os,(grow (((W.alloc (Obj.cells #[Value.int .u64 k,v1,v2,v3,v4,v5,v6] 56)).alloc (Obj.cells #[Value.int .u64 k',u1,u2,u3,u4,u5,u6] 56)).drewN n) os).cell? ⟨W.heap.size,1,none⟩ = some (v1):=fun n os=>cell_grown (by rw [hsz]; show W.heap.size < W.heap.size + 2; omega) (by simp only [World.cell?,hb1]; rfl) n os;have m2:∀ n os,(grow (((W.alloc (Obj.cells #[Value.int .u64 k,v1,v2,v3,v4,v5,v6] 56)).alloc (Obj.cells #[Value.int .u64 k',u1,u2,u3,u4,u5,u6] 56)).drewN n) os).cell? ⟨W.heap.size,2,none⟩ = some (v2):=fun n os=>cell_grown (by rw [hsz]; show W.heap.size < W.heap.size + 2; omega) (by simp only [World.cell?,hb1]; rfl) n os;have m3:∀ n os,(grow (((W.alloc (Obj.cells #[Value.int .u64 k,v1,v2,v3,v4,v5,v6] 56)).alloc (Obj.cells #[Value.int .u64 k',u1,u2,u3,u4,u5,u6] 56)).drewN n) os).cell? ⟨W.heap.size,3,none⟩ = some (v3):=fun n os=>cell_grown (by rw [hsz]; show W.heap.size < W.heap.size + 2; omega) (by simp only [World.cell?,hb1]; rfl) n os
 have m4:∀ n os,(grow (((W.alloc (Obj.cells #[Value.int .u64 k,v1,v2,v3,v4,v5,v6] 56)).alloc (Obj.cells #[Value.int .u64 k',u1,u2,u3,u4,u5,u6] 56)).drewN n) os).cell? ⟨W.heap.size,4,none⟩ = some (v4):=fun n os=>cell_grown (by rw [hsz]; show W.heap.size < W.heap.size + 2; omega) (by simp only [World.cell?,hb1]; rfl) n os;have m5:∀ n os,(grow (((W.alloc (Obj.cells #[Value.int .u64 k,v1,v2,v3,v4,v5,v6] 56)).alloc (Obj.cells #[Value.int .u64 k',u1,u2,u3,u4,u5,u6] 56)).drewN n) os).cell? ⟨W.heap.size,5,none⟩ = some (v5):=fun n os=>cell_grown (by rw [hsz]; show W.heap.size < W.heap.size + 2; omega) (by simp only [World.cell?,hb1]; rfl) n os;have m6:∀ n os,(grow (((W.alloc (Obj.cells #[Value.int .u64 k,v1,v2,v3,v4,v5,v6] 56)).alloc (Obj.cells #[Value.int .u64 k',u1,u2,u3,u4,u5,u6] 56)).drewN n) os).cell? ⟨W.heap.size,6,none⟩ = some (v6):=fun n os=>cell_grown (by rw [hsz]; show W.heap.size < W.heap.size + 2; omega) (by simp only [World.cell?,hb1]; rfl) n os;have p0:∀ n os,(grow (((W.alloc (Obj.cells #[Value.int .u64 k,v1,v2,v3,v4,v5,v6] 56)).alloc (Obj.cells #[Value.int .u64 k',u1,u2,u3,u4,u5,u6] 56)).drewN n) os).cell? ⟨W.heap.size + 1,0,none⟩ = some (Value.int .u64 k'):=fun n os=>cell_grown (by rw [hsz]; show W.heap.size + 1 < W.heap.size + 2; omega) (by simp only [World.cell?,hb2]; rfl) n os
 have p1:∀ n os,(grow (((W.alloc (Obj.cells #[Value.int .u64 k,v1,v2,v3,v4,v5,v6] 56)).alloc (Obj.cells #[Value.int .u64 k',u1,u2,u3,u4,u5,u6] 56)).drewN n) os).cell? ⟨W.heap.size + 1,1,none⟩ = some (u1):=fun n os=>cell_grown (by rw [hsz]; show W.heap.size + 1 < W.heap.size + 2; omega) (by simp only [World.cell?,hb2]; rfl) n os;have p2:∀ n os,(grow (((W.alloc (Obj.cells #[Value.int .u64 k,v1,v2,v3,v4,v5,v6] 56)).alloc (Obj.cells #[Value.int .u64 k',u1,u2,u3,u4,u5,u6] 56)).drewN n) os).cell? ⟨W.heap.size + 1,2,none⟩ = some (u2):=fun n os=>cell_grown (by rw [hsz]; show W.heap.size + 1 < W.heap.size + 2; omega) (by simp only [World.cell?,hb2]; rfl) n os;have p3:∀ n os,(grow (((W.alloc (Obj.cells #[Value.int .u64 k,v1,v2,v3,v4,v5,v6] 56)).alloc (Obj.cells #[Value.int .u64 k',u1,u2,u3,u4,u5,u6] 56)).drewN n) os).cell? ⟨W.heap.size + 1,3,none⟩ = some (u3):=fun n os=>cell_grown (by rw [hsz]; show W.heap.size + 1 < W.heap.size + 2; omega) (by simp only [World.cell?,hb2]; rfl) n os;have p4:∀ n os,(grow (((W.alloc (Obj.cells #[Value.int .u64 k,v1,v2,v3,v4,v5,v6] 56)).alloc (Obj.cells #[Value.int .u64 k',u1,u2,u3,u4,u5,u6] 56)).drewN n) os).cell? ⟨W.heap.size + 1,4,none⟩ = some (u4):=fun n os=>cell_grown (by rw [hsz]; show W.heap.size + 1 < W.heap.size + 2; omega) (by simp only [World.cell?,hb2]; rfl) n os
 have p5:∀ n os,(grow (((W.alloc (Obj.cells #[Value.int .u64 k,v1,v2,v3,v4,v5,v6] 56)).alloc (Obj.cells #[Value.int .u64 k',u1,u2,u3,u4,u5,u6] 56)).drewN n) os).cell? ⟨W.heap.size + 1,5,none⟩ = some (u5):=fun n os=>cell_grown (by rw [hsz]; show W.heap.size + 1 < W.heap.size + 2; omega) (by simp only [World.cell?,hb2]; rfl) n os;have p6:∀ n os,(grow (((W.alloc (Obj.cells #[Value.int .u64 k,v1,v2,v3,v4,v5,v6] 56)).alloc (Obj.cells #[Value.int .u64 k',u1,u2,u3,u4,u5,u6] 56)).drewN n) os).cell? ⟨W.heap.size + 1,6,none⟩ = some (u6):=fun n os=>cell_grown (by rw [hsz]; show W.heap.size + 1 < W.heap.size + 2; omega) (by simp only [World.cell?,hb2]; rfl) n os;clear hsz hb1 hb2;generalize hwq:((W.alloc (Obj.cells #[Value.int .u64 k,v1,v2,v3,v4,v5,v6] 56)).alloc (Obj.cells #[Value.int .u64 k',u1,u2,u3,u4,u5,u6] 56)) = wq at lc m0 m1 m2 m3 m4 m5 m6 p0 p1 p2 p3 p4 p5 p6 ⊢;refine wp_region_quiet_grown (by assumption) (by kernel_rfl) ?_
 quiet_step (fail)
 quiet_step (fail)
 quiet_step (refine Calls.grown_of (Hn1.out _))
 quiet_step (fail)
 quiet_step (fail)
 quiet_step (refine Calls.grown_of (Hn2.out _))
 quiet_step (refine Calls.grown_of ((Hn3.out _).mono fun e w' ⟨h1,q,h2⟩=>⟨h1,q,#[],by rw [grow_empty]; exact h2⟩))
 quiet_step (fail)
 refine wpQuiet_nil ?_;intro _ hw';obtain ⟨⟨nq,osq⟩,hw''⟩:=hw';subst hw''
 go_wp2_with fail
 go_ret
 rw [← hwq,alloc_eq_grow,alloc_eq_grow];refine ⟨rfl,nq,#[Obj.cells #[Value.int .u64 k,v1,v2,v3,v4,v5,v6] 56] ++ #[Obj.cells #[Value.int .u64 k',u1,u2,u3,u4,u5,u6] 56] ++ osq,?_⟩;show grow (grow (grow (W.drewN nq) _) _) osq = _;simp only [grow_grow]
theorem Kh:nR Tryz.prog yI:=by
 intro W c x y hc;have hlt:c < W.heap.size:=by
  rcases Nat.lt_or_ge c W.heap.size with h | h
  · exact h
  · simp [World.cell?,Array.getElem?_eq_none h] at hc
 obtain ⟨xs,xl,xo,xk,xh⟩:=x;obtain ⟨ys,yl,yo,yk,yh⟩:=y;simp only [yI] at xs xl xh ys yl yh hc ⊢;obtain ⟨a0,a1,a2,a3,a4,a5,a6,rfl⟩:∃ a0 a1 a2 a3 a4 a5 a6,xs = [a0,a1,a2,a3,a4,a5,a6]:=by
  match xs,xl with
  | [a0,a1,a2,a3,a4,a5,a6],_=>exact ⟨a0,a1,a2,a3,a4,a5,a6,rfl⟩
 obtain ⟨b0,b1,b2,b3,b4,b5,b6,rfl⟩:∃ b0 b1 b2 b3 b4 b5 b6,ys = [b0,b1,b2,b3,b4,b5,b6]:=by
  match ys,yl with
  | [b0,b1,b2,b3,b4,b5,b6],_=>exact ⟨b0,b1,b2,b3,b4,b5,b6,rfl⟩
 simp only [List.getElem?_cons_zero,Option.some.injEq] at xh yh;subst xh; subst yh;exact QT xk a1 a2 a3 a4 a5 a6 (xo _ (by simp)) (xo _ (by simp)) (xo _ (by simp)) (xo _ (by simp)) (xo _ (by simp)) (xo _ (by simp)) yk b1 b2 b3 b4 b5 b6 (yo _ (by simp)) (yo _ (by simp)) (yo _ (by simp)) (yo _ (by simp)) (yo _ (by simp)) (yo _ (by simp)) c W hc hlt
set_option maxHeartbeats 2000000 in
theorem Yk (k:Int) (v1 v2 v3 v4:Value) (h1:v1.oneCell' = true) (h2:v2.oneCell' = true) (h3:v3.oneCell' = true) (h4:v4.oneCell' = true) (W:World) :
 Calls Tryz.prog 21 #[.agg #[Value.int .u64 k,v1,v2,v3,v4]] W fun e w'=>e = .returned (.int .u64 k) /\ ∃ q os,w' = grow (W.drewN q) os:=by
 go_enter Tryz.func21,Tryz.ntmps21
 go_wp2
 go_ret
 exact ⟨rfl,0,_,by rw [alloc_eq_grow]; rfl⟩
set_option maxHeartbeats 4000000 in
theorem QU (k:Int) (v1 v2 v3 v4:Value) (h1:v1.oneCell' = true) (h2:v2.oneCell' = true) (h3:v3.oneCell' = true) (h4:v4.oneCell' = true) (k':Int) (u1 u2 u3 u4:Value) (g1:u1.oneCell' = true) (g2:u2.oneCell' = true) (g3:u3.oneCell' = true) (g4:u4.oneCell' = true) (c:Nat) (W:World) (hc:W.cell? ⟨c,0,none⟩ = some (.func (.func 21) #[] #[])) (hlt:c < W.heap.size) :
 Calls Tryz.prog 152 #[.agg #[Value.int .u64 k,v1,v2,v3,v4],.agg #[Value.int .u64 k',u1,u2,u3,u4],.pointer (some ⟨c,0,none⟩)] W fun e w'=>e = .returned (.int .i64 (tQ k k')) /\ ∃ q os,w' = grow (W.drewN q) os:=by
 have Hc:=(show Hid _ from hc);have Hn1:=(show Hid _ from fun W=>Yk k v1 v2 v3 v4 h1 h2 h3 h4 W);have Hn2:=(show Hid _ from fun W=>Yk k' u1 u2 u3 u4 g1 g2 g3 g4 W);have Hn3:=(show Hid _ from fun W=>vg k k' W);have mixed:Tryz.prog.follows .mixedOrders = true:=by kernel_rfl
 clear hc;generalize tQ k k' = r at *
 go_enter Tryz.func152,Tryz.ntmps152
 go_wp2_with fail
 have hsz:((W.alloc (Obj.cells #[Value.int .u64 k,v1,v2,v3,v4] 58)).alloc (Obj.cells #[Value.int .u64 k',u1,u2,u3,u4] 58)).heap.size = W.heap.size + 2:=by rw [World.size_alloc,World.size_alloc]
 have lc:∀ n os,(grow (((W.alloc (Obj.cells #[Value.int .u64 k,v1,v2,v3,v4] 58)).alloc (Obj.cells #[Value.int .u64 k',u1,u2,u3,u4] 58)).drewN n) os).cell? ⟨c,0,none⟩ = some (.func (.func 21) #[] #[]):=fun n os=>by
  refine cell_grown (by rw [hsz]; exact Nat.lt_of_lt_of_le hlt (Nat.le_add_right _ _)) ?_ n os;rw [← Hc.out];simp only [World.cell?];rw [Below.heap_alloc _ _ _ (by rw [World.size_alloc]; exact Nat.lt_succ_of_lt hlt),Below.heap_alloc _ _ _ hlt]
 have hb1:((W.alloc (Obj.cells #[Value.int .u64 k,v1,v2,v3,v4] 58)).alloc (Obj.cells #[Value.int .u64 k',u1,u2,u3,u4] 58)).heap[W.heap.size]? = some (Obj.cells #[Value.int .u64 k,v1,v2,v3,v4] 58):=by
  rw [Below.heap_alloc _ _ _ (by rw [World.size_alloc]; exact Nat.lt_succ_self _)];show (W.heap.push _)[W.heap.size]? = _;simp
 have hb2:((W.alloc (Obj.cells #[Value.int .u64 k,v1,v2,v3,v4] 58)).alloc (Obj.cells #[Value.int .u64 k',u1,u2,u3,u4] 58)).heap[W.heap.size + 1]? = some (Obj.cells #[Value.int .u64 k',u1,u2,u3,u4] 58):=by
  show ((W.heap.push _).push _)[W.heap.size + 1]? = _;rw [Array.getElem?_push,if_pos (by simp)]
 have m0:∀ n os,(grow (((W.alloc (Obj.cells #[Value.int .u64 k,v1,v2,v3,v4] 58)).alloc (Obj.cells #[Value.int .u64 k',u1,u2,u3,u4] 58)).drewN n) os).cell? ⟨W.heap.size,0,none⟩ = some (Value.int .u64 k):=fun n os=>cell_grown (by rw [hsz]; show W.heap.size < W.heap.size + 2; omega) (by simp only [World.cell?,hb1]; rfl) n os;have m1:∀ n os,(grow (((W.alloc (Obj.cells #[Value.int .u64 k,v1,v2,v3,v4] 58)).alloc (Obj.cells #[Value.int .u64 k',u1,u2,u3,u4] 58)).drewN n) os).cell? ⟨W.heap.size,1,none⟩ = some (v1):=fun n os=>cell_grown (by rw [hsz]; show W.heap.size < W.heap.size + 2; omega) (by simp only [World.cell?,hb1]; rfl) n os;have m2:∀ n os,(grow (((W.alloc (Obj.cells #[Value.int .u64 k,v1,v2,v3,v4] 58)).alloc (Obj.cells #[Value.int .u64 k',u1,u2,u3,u4] 58)).drewN n) os).cell? ⟨W.heap.size,2,none⟩ = some (v2):=fun n os=>cell_grown (by rw [hsz]; show W.heap.size < W.heap.size + 2; omega) (by simp only [World.cell?,hb1]; rfl) n os;have m3:∀ n os,(grow (((W.alloc (Obj.cells #[Value.int .u64 k,v1,v2,v3,v4] 58)).alloc (Obj.cells #[Value.int .u64 k',u1,u2,u3,u4] 58)).drewN n) os).cell? ⟨W.heap.size,3,none⟩ = some (v3):=fun n os=>cell_grown (by rw [hsz]; show W.heap.size < W.heap.size + 2; omega) (by simp only [World.cell?,hb1]; rfl) n os
 have m4:∀ n os,(grow (((W.alloc (Obj.cells #[Value.int .u64 k,v1,v2,v3,v4] 58)).alloc (Obj.cells #[Value.int .u64 k',u1,u2,u3,u4] 58)).drewN n) os).cell? ⟨W.heap.size,4,none⟩ = some (v4):=fun n os=>cell_grown (by rw [hsz]; show W.heap.size < W.heap.size + 2; omega) (by simp only [World.cell?,hb1]; rfl) n os;have p0:∀ n os,(grow (((W.alloc (Obj.cells #[Value.int .u64 k,v1,v2,v3,v4] 58)).alloc (Obj.cells #[Value.int .u64 k',u1,u2,u3,u4] 58)).drewN n) os).cell? ⟨W.heap.size + 1,0,none⟩ = some (Value.int .u64 k'):=fun n os=>cell_grown (by rw [hsz]; show W.heap.size + 1 < W.heap.size + 2; omega) (by simp only [World.cell?,hb2]; rfl) n os;have p1:∀ n os,(grow (((W.alloc (Obj.cells #[Value.int .u64 k,v1,v2,v3,v4] 58)).alloc (Obj.cells #[Value.int .u64 k',u1,u2,u3,u4] 58)).drewN n) os).cell? ⟨W.heap.size + 1,1,none⟩ = some (u1):=fun n os=>cell_grown (by rw [hsz]; show W.heap.size + 1 < W.heap.size + 2; omega) (by simp only [World.cell?,hb2]; rfl) n os;have p2:∀ n os,(grow (((W.alloc (Obj.cells #[Value.int .u64 k,v1,v2,v3,v4] 58)).alloc (Obj.cells #[Value.int .u64 k',u1,u2,u3,u4] 58)).drewN n) os).cell? ⟨W.heap.size + 1,2,none⟩ = some (u2):=fun n os=>cell_grown (by rw [hsz]; show W.heap.size + 1 < W.heap.size + 2; omega) (by simp only [World.cell?,hb2]; rfl) n os
 have p3:∀ n os,(grow (((W.alloc (Obj.cells #[Value.int .u64 k,v1,v2,v3,v4] 58)).alloc (Obj.cells #[Value.int .u64 k',u1,u2,u3,u4] 58)).drewN n) os).cell? ⟨W.heap.size + 1,3,none⟩ = some (u3):=fun n os=>cell_grown (by rw [hsz]; show W.heap.size + 1 < W.heap.size + 2; omega) (by simp only [World.cell?,hb2]; rfl) n os;have p4:∀ n os,(grow (((W.alloc (Obj.cells #[Value.int .u64 k,v1,v2,v3,v4] 58)).alloc (Obj.cells #[Value.int .u64 k',u1,u2,u3,u4] 58)).drewN n) os).cell? ⟨W.heap.size + 1,4,none⟩ = some (u4):=fun n os=>cell_grown (by rw [hsz]; show W.heap.size + 1 < W.heap.size + 2; omega) (by simp only [World.cell?,hb2]; rfl) n os;clear hsz hb1 hb2;generalize hwq:((W.alloc (Obj.cells #[Value.int .u64 k,v1,v2,v3,v4] 58)).alloc (Obj.cells #[Value.int .u64 k',u1,u2,u3,u4] 58)) = wq at lc m0 m1 m2 m3 m4 p0 p1 p2 p3 p4 ⊢;refine wp_region_quiet_grown (by assumption) (by kernel_rfl) ?_
 quiet_step (fail)
 quiet_step (fail)
 quiet_step (refine Calls.grown_of (Hn1.out _))
 quiet_step (fail)
 quiet_step (fail)
 quiet_step (refine Calls.grown_of (Hn2.out _))
 quiet_step (refine Calls.grown_of ((Hn3.out _).mono fun e w' ⟨h1,q,h2⟩=>⟨h1,q,#[],by rw [grow_empty]; exact h2⟩))
 quiet_step (fail)
 refine wpQuiet_nil ?_;intro _ hw';obtain ⟨⟨nq,osq⟩,hw''⟩:=hw';subst hw''
 go_wp2_with fail
 go_ret
 rw [← hwq,alloc_eq_grow,alloc_eq_grow];refine ⟨rfl,nq,#[Obj.cells #[Value.int .u64 k,v1,v2,v3,v4] 58] ++ #[Obj.cells #[Value.int .u64 k',u1,u2,u3,u4] 58] ++ osq,?_⟩;show grow (grow (grow (W.drewN nq) _) _) osq = _;simp only [grow_grow]
theorem Ki:nR Tryz.prog yK:=by
 intro W c x y hc;have hlt:c < W.heap.size:=by
  rcases Nat.lt_or_ge c W.heap.size with h | h
  · exact h
  · simp [World.cell?,Array.getElem?_eq_none h] at hc
 obtain ⟨xs,xl,xo,xk,xh⟩:=x;obtain ⟨ys,yl,yo,yk,yh⟩:=y;simp only [yK] at xs xl xh ys yl yh hc ⊢;obtain ⟨a0,a1,a2,a3,a4,rfl⟩:∃ a0 a1 a2 a3 a4,xs = [a0,a1,a2,a3,a4]:=by
  match xs,xl with
  | [a0,a1,a2,a3,a4],_=>exact ⟨a0,a1,a2,a3,a4,rfl⟩
 obtain ⟨b0,b1,b2,b3,b4,rfl⟩:∃ b0 b1 b2 b3 b4,ys = [b0,b1,b2,b3,b4]:=by
  match ys,yl with
  | [b0,b1,b2,b3,b4],_=>exact ⟨b0,b1,b2,b3,b4,rfl⟩
 simp only [List.getElem?_cons_zero,Option.some.injEq] at xh yh;subst xh; subst yh;exact QU xk a1 a2 a3 a4 (xo _ (by simp)) (xo _ (by simp)) (xo _ (by simp)) (xo _ (by simp)) yk b1 b2 b3 b4 (yo _ (by simp)) (yo _ (by simp)) (yo _ (by simp)) (yo _ (by simp)) c W hc hlt
set_option maxHeartbeats 2000000 in
theorem Yl (k:Int) (v1:Value) (h1:v1.oneCell' = true) (W:World) :
 Calls Tryz.prog 24 #[.agg #[Value.int .u64 k,v1]] W fun e w'=>e = .returned (.int .u64 k) /\ ∃ q os,w' = grow (W.drewN q) os:=by
 go_enter Tryz.func24,Tryz.ntmps24
 go_wp2
 go_ret
 exact ⟨rfl,0,_,by rw [alloc_eq_grow]; rfl⟩
set_option maxHeartbeats 4000000 in
theorem QV (k:Int) (v1:Value) (h1:v1.oneCell' = true) (k':Int) (u1:Value) (g1:u1.oneCell' = true) (c:Nat) (W:World) (hc:W.cell? ⟨c,0,none⟩ = some (.func (.func 24) #[] #[])) (hlt:c < W.heap.size) :
 Calls Tryz.prog 156 #[.agg #[Value.int .u64 k,v1],.agg #[Value.int .u64 k',u1],.pointer (some ⟨c,0,none⟩)] W fun e w'=>e = .returned (.int .i64 (tQ k k')) /\ ∃ q os,w' = grow (W.drewN q) os:=by
 have Hc:=(show Hid _ from hc);have Hn1:=(show Hid _ from fun W=>Yl k v1 h1 W);have Hn2:=(show Hid _ from fun W=>Yl k' u1 g1 W);have Hn3:=(show Hid _ from fun W=>vg k k' W);have mixed:Tryz.prog.follows .mixedOrders = true:=by kernel_rfl
 clear hc;generalize tQ k k' = r at *
 go_enter Tryz.func156,Tryz.ntmps156
 go_wp2_with fail
 have hsz:((W.alloc (Obj.cells #[Value.int .u64 k,v1] 60)).alloc (Obj.cells #[Value.int .u64 k',u1] 60)).heap.size = W.heap.size + 2:=by rw [World.size_alloc,World.size_alloc]
 have lc:∀ n os,(grow (((W.alloc (Obj.cells #[Value.int .u64 k,v1] 60)).alloc (Obj.cells #[Value.int .u64 k',u1] 60)).drewN n) os).cell? ⟨c,0,none⟩ = some (.func (.func 24) #[] #[]):=fun n os=>by
  refine cell_grown (by rw [hsz]; exact Nat.lt_of_lt_of_le hlt (Nat.le_add_right _ _)) ?_ n os;rw [← Hc.out];simp only [World.cell?];rw [Below.heap_alloc _ _ _ (by rw [World.size_alloc]; exact Nat.lt_succ_of_lt hlt),Below.heap_alloc _ _ _ hlt]
 have hb1:((W.alloc (Obj.cells #[Value.int .u64 k,v1] 60)).alloc (Obj.cells #[Value.int .u64 k',u1] 60)).heap[W.heap.size]? = some (Obj.cells #[Value.int .u64 k,v1] 60):=by
  rw [Below.heap_alloc _ _ _ (by rw [World.size_alloc]; exact Nat.lt_succ_self _)];show (W.heap.push _)[W.heap.size]? = _;simp
 have hb2:((W.alloc (Obj.cells #[Value.int .u64 k,v1] 60)).alloc (Obj.cells #[Value.int .u64 k',u1] 60)).heap[W.heap.size + 1]? = some (Obj.cells #[Value.int .u64 k',u1] 60):=by
  show ((W.heap.push _).push _)[W.heap.size + 1]? = _;rw [Array.getElem?_push,if_pos (by simp)]
 have m0:∀ n os,(grow (((W.alloc (Obj.cells #[Value.int .u64 k,v1] 60)).alloc (Obj.cells #[Value.int .u64 k',u1] 60)).drewN n) os).cell? ⟨W.heap.size,0,none⟩ = some (Value.int .u64 k):=fun n os=>cell_grown (by rw [hsz]; show W.heap.size < W.heap.size + 2; omega) (by simp only [World.cell?,hb1]; rfl) n os;have m1:∀ n os,(grow (((W.alloc (Obj.cells #[Value.int .u64 k,v1] 60)).alloc (Obj.cells #[Value.int .u64 k',u1] 60)).drewN n) os).cell? ⟨W.heap.size,1,none⟩ = some (v1):=fun n os=>cell_grown (by rw [hsz]; show W.heap.size < W.heap.size + 2; omega) (by simp only [World.cell?,hb1]; rfl) n os;have p0:∀ n os,(grow (((W.alloc (Obj.cells #[Value.int .u64 k,v1] 60)).alloc (Obj.cells #[Value.int .u64 k',u1] 60)).drewN n) os).cell? ⟨W.heap.size + 1,0,none⟩ = some (Value.int .u64 k'):=fun n os=>cell_grown (by rw [hsz]; show W.heap.size + 1 < W.heap.size + 2; omega) (by simp only [World.cell?,hb2]; rfl) n os;have p1:∀ n os,(grow (((W.alloc (Obj.cells #[Value.int .u64 k,v1] 60)).alloc (Obj.cells #[Value.int .u64 k',u1] 60)).drewN n) os).cell? ⟨W.heap.size + 1,1,none⟩ = some (u1):=fun n os=>cell_grown (by rw [hsz]; show W.heap.size + 1 < W.heap.size + 2; omega) (by simp only [World.cell?,hb2]; rfl) n os;clear hsz hb1 hb2;generalize hwq:((W.alloc (Obj.cells #[Value.int .u64 k,v1] 60)).alloc (Obj.cells #[Value.int .u64 k',u1] 60)) = wq at lc m0 m1 p0 p1 ⊢;refine wp_region_quiet_grown (by assumption) (by kernel_rfl) ?_
 quiet_step (fail)
 quiet_step (fail)
 quiet_step (refine Calls.grown_of (Hn1.out _))
 quiet_step (fail)
 quiet_step (fail)
 quiet_step (refine Calls.grown_of (Hn2.out _))
 quiet_step (refine Calls.grown_of ((Hn3.out _).mono fun e w' ⟨h1,q,h2⟩=>⟨h1,q,#[],by rw [grow_empty]; exact h2⟩))
 quiet_step (fail)
 refine wpQuiet_nil ?_;intro _ hw';obtain ⟨⟨nq,osq⟩,hw''⟩:=hw';subst hw''
 go_wp2_with fail
 go_ret
 rw [← hwq,alloc_eq_grow,alloc_eq_grow];refine ⟨rfl,nq,#[Obj.cells #[Value.int .u64 k,v1] 60] ++ #[Obj.cells #[Value.int .u64 k',u1] 60] ++ osq,?_⟩;show grow (grow (grow (W.drewN nq) _) _) osq = _;simp only [grow_grow]
theorem Kj:nR Tryz.prog yL:=by
 intro W c x y hc;have hlt:c < W.heap.size:=by
  rcases Nat.lt_or_ge c W.heap.size with h | h
  · exact h
  · simp [World.cell?,Array.getElem?_eq_none h] at hc
 obtain ⟨xs,xl,xo,xk,xh⟩:=x;obtain ⟨ys,yl,yo,yk,yh⟩:=y;simp only [yL] at xs xl xh ys yl yh hc ⊢;obtain ⟨a0,a1,rfl⟩:∃ a0 a1,xs = [a0,a1]:=by
  match xs,xl with
  | [a0,a1],_=>exact ⟨a0,a1,rfl⟩
 obtain ⟨b0,b1,rfl⟩:∃ b0 b1,ys = [b0,b1]:=by
  match ys,yl with
  | [b0,b1],_=>exact ⟨b0,b1,rfl⟩
 simp only [List.getElem?_cons_zero,Option.some.injEq] at xh yh;subst xh; subst yh;exact QV xk a1 (xo _ (by simp)) yk b1 (yo _ (by simp)) c W hc hlt
set_option maxHeartbeats 2000000 in
theorem Ym (k:Int) (v1 v2 v3 v4:Value) (h1:v1.oneCell' = true) (h2:v2.oneCell' = true) (h3:v3.oneCell' = true) (h4:v4.oneCell' = true) (W:World) :
 Calls Tryz.prog 27 #[.agg #[Value.int .u64 k,v1,v2,v3,v4]] W fun e w'=>e = .returned (.int .u64 k) /\ ∃ q os,w' = grow (W.drewN q) os:=by
 go_enter Tryz.func27,Tryz.ntmps27
 go_wp2
 go_ret
 exact ⟨rfl,0,_,by rw [alloc_eq_grow]; rfl⟩
set_option maxHeartbeats 4000000 in
theorem QW (k:Int) (v1 v2 v3 v4:Value) (h1:v1.oneCell' = true) (h2:v2.oneCell' = true) (h3:v3.oneCell' = true) (h4:v4.oneCell' = true) (k':Int) (u1 u2 u3 u4:Value) (g1:u1.oneCell' = true) (g2:u2.oneCell' = true) (g3:u3.oneCell' = true) (g4:u4.oneCell' = true) (c:Nat) (W:World) (hc:W.cell? ⟨c,0,none⟩ = some (.func (.func 27) #[] #[])) (hlt:c < W.heap.size) :
 Calls Tryz.prog 160 #[.agg #[Value.int .u64 k,v1,v2,v3,v4],.agg #[Value.int .u64 k',u1,u2,u3,u4],.pointer (some ⟨c,0,none⟩)] W fun e w'=>e = .returned (.int .i64 (tQ k k')) /\ ∃ q os,w' = grow (W.drewN q) os:=by
 have Hc:=(show Hid _ from hc);have Hn1:=(show Hid _ from fun W=>Ym k v1 v2 v3 v4 h1 h2 h3 h4 W);have Hn2:=(show Hid _ from fun W=>Ym k' u1 u2 u3 u4 g1 g2 g3 g4 W);have Hn3:=(show Hid _ from fun W=>vg k k' W);have mixed:Tryz.prog.follows .mixedOrders = true:=by kernel_rfl
 clear hc;generalize tQ k k' = r at *
 go_enter Tryz.func160,Tryz.ntmps160
 go_wp2_with fail
 have hsz:((W.alloc (Obj.cells #[Value.int .u64 k,v1,v2,v3,v4] 81)).alloc (Obj.cells #[Value.int .u64 k',u1,u2,u3,u4] 81)).heap.size = W.heap.size + 2:=by rw [World.size_alloc,World.size_alloc]
 have lc:∀ n os,(grow (((W.alloc (Obj.cells #[Value.int .u64 k,v1,v2,v3,v4] 81)).alloc (Obj.cells #[Value.int .u64 k',u1,u2,u3,u4] 81)).drewN n) os).cell? ⟨c,0,none⟩ = some (.func (.func 27) #[] #[]):=fun n os=>by
  refine cell_grown (by rw [hsz]; exact Nat.lt_of_lt_of_le hlt (Nat.le_add_right _ _)) ?_ n os;rw [← Hc.out];simp only [World.cell?];rw [Below.heap_alloc _ _ _ (by rw [World.size_alloc]; exact Nat.lt_succ_of_lt hlt),Below.heap_alloc _ _ _ hlt]
 have hb1:((W.alloc (Obj.cells #[Value.int .u64 k,v1,v2,v3,v4] 81)).alloc (Obj.cells #[Value.int .u64 k',u1,u2,u3,u4] 81)).heap[W.heap.size]? = some (Obj.cells #[Value.int .u64 k,v1,v2,v3,v4] 81):=by
  rw [Below.heap_alloc _ _ _ (by rw [World.size_alloc]; exact Nat.lt_succ_self _)];show (W.heap.push _)[W.heap.size]? = _;simp
 have hb2:((W.alloc (Obj.cells #[Value.int .u64 k,v1,v2,v3,v4] 81)).alloc (Obj.cells #[Value.int .u64 k',u1,u2,u3,u4] 81)).heap[W.heap.size + 1]? = some (Obj.cells #[Value.int .u64 k',u1,u2,u3,u4] 81):=by
  show ((W.heap.push _).push _)[W.heap.size + 1]? = _;rw [Array.getElem?_push,if_pos (by simp)]
 have m0:∀ n os,(grow (((W.alloc (Obj.cells #[Value.int .u64 k,v1,v2,v3,v4] 81)).alloc (Obj.cells #[Value.int .u64 k',u1,u2,u3,u4] 81)).drewN n) os).cell? ⟨W.heap.size,0,none⟩ = some (Value.int .u64 k):=fun n os=>cell_grown (by rw [hsz]; show W.heap.size < W.heap.size + 2; omega) (by simp only [World.cell?,hb1]; rfl) n os;have m1:∀ n os,(grow (((W.alloc (Obj.cells #[Value.int .u64 k,v1,v2,v3,v4] 81)).alloc (Obj.cells #[Value.int .u64 k',u1,u2,u3,u4] 81)).drewN n) os).cell? ⟨W.heap.size,1,none⟩ = some (v1):=fun n os=>cell_grown (by rw [hsz]; show W.heap.size < W.heap.size + 2; omega) (by simp only [World.cell?,hb1]; rfl) n os;have m2:∀ n os,(grow (((W.alloc (Obj.cells #[Value.int .u64 k,v1,v2,v3,v4] 81)).alloc (Obj.cells #[Value.int .u64 k',u1,u2,u3,u4] 81)).drewN n) os).cell? ⟨W.heap.size,2,none⟩ = some (v2):=fun n os=>cell_grown (by rw [hsz]; show W.heap.size < W.heap.size + 2; omega) (by simp only [World.cell?,hb1]; rfl) n os;have m3:∀ n os,(grow (((W.alloc (Obj.cells #[Value.int .u64 k,v1,v2,v3,v4] 81)).alloc (Obj.cells #[Value.int .u64 k',u1,u2,u3,u4] 81)).drewN n) os).cell? ⟨W.heap.size,3,none⟩ = some (v3):=fun n os=>cell_grown (by rw [hsz]; show W.heap.size < W.heap.size + 2; omega) (by simp only [World.cell?,hb1]; rfl) n os
 have m4:∀ n os,(grow (((W.alloc (Obj.cells #[Value.int .u64 k,v1,v2,v3,v4] 81)).alloc (Obj.cells #[Value.int .u64 k',u1,u2,u3,u4] 81)).drewN n) os).cell? ⟨W.heap.size,4,none⟩ = some (v4):=fun n os=>cell_grown (by rw [hsz]; show W.heap.size < W.heap.size + 2; omega) (by simp only [World.cell?,hb1]; rfl) n os;have p0:∀ n os,(grow (((W.alloc (Obj.cells #[Value.int .u64 k,v1,v2,v3,v4] 81)).alloc (Obj.cells #[Value.int .u64 k',u1,u2,u3,u4] 81)).drewN n) os).cell? ⟨W.heap.size + 1,0,none⟩ = some (Value.int .u64 k'):=fun n os=>cell_grown (by rw [hsz]; show W.heap.size + 1 < W.heap.size + 2; omega) (by simp only [World.cell?,hb2]; rfl) n os;have p1:∀ n os,(grow (((W.alloc (Obj.cells #[Value.int .u64 k,v1,v2,v3,v4] 81)).alloc (Obj.cells #[Value.int .u64 k',u1,u2,u3,u4] 81)).drewN n) os).cell? ⟨W.heap.size + 1,1,none⟩ = some (u1):=fun n os=>cell_grown (by rw [hsz]; show W.heap.size + 1 < W.heap.size + 2; omega) (by simp only [World.cell?,hb2]; rfl) n os;have p2:∀ n os,(grow (((W.alloc (Obj.cells #[Value.int .u64 k,v1,v2,v3,v4] 81)).alloc (Obj.cells #[Value.int .u64 k',u1,u2,u3,u4] 81)).drewN n) os).cell? ⟨W.heap.size + 1,2,none⟩ = some (u2):=fun n os=>cell_grown (by rw [hsz]; show W.heap.size + 1 < W.heap.size + 2; omega) (by simp only [World.cell?,hb2]; rfl) n os
 have p3:∀ n os,(grow (((W.alloc (Obj.cells #[Value.int .u64 k,v1,v2,v3,v4] 81)).alloc (Obj.cells #[Value.int .u64 k',u1,u2,u3,u4] 81)).drewN n) os).cell? ⟨W.heap.size + 1,3,none⟩ = some (u3):=fun n os=>cell_grown (by rw [hsz]; show W.heap.size + 1 < W.heap.size + 2; omega) (by simp only [World.cell?,hb2]; rfl) n os;have p4:∀ n os,(grow (((W.alloc (Obj.cells #[Value.int .u64 k,v1,v2,v3,v4] 81)).alloc (Obj.cells #[Value.int .u64 k',u1,u2,u3,u4] 81)).drewN n) os).cell? ⟨W.heap.size + 1,4,none⟩ = some (u4):=fun n os=>cell_grown (by rw [hsz]; show W.heap.size + 1 < W.heap.size + 2; omega) (by simp only [World.cell?,hb2]; rfl) n os;clear hsz hb1 hb2;generalize hwq:((W.alloc (Obj.cells #[Value.int .u64 k,v1,v2,v3,v4] 81)).alloc (Obj.cells #[Value.int .u64 k',u1,u2,u3,u4] 81)) = wq at lc m0 m1 m2 m3 m4 p0 p1 p2 p3 p4 ⊢;refine wp_region_quiet_grown (by assumption) (by kernel_rfl) ?_
 quiet_step (fail)
 quiet_step (fail)
 quiet_step (refine Calls.grown_of (Hn1.out _))
 quiet_step (fail)
 quiet_step (fail)
 quiet_step (refine Calls.grown_of (Hn2.out _))
 quiet_step (refine Calls.grown_of ((Hn3.out _).mono fun e w' ⟨h1,q,h2⟩=>⟨h1,q,#[],by rw [grow_empty]; exact h2⟩))
 quiet_step (fail)
 refine wpQuiet_nil ?_;intro _ hw';obtain ⟨⟨nq,osq⟩,hw''⟩:=hw';subst hw''
 go_wp2_with fail
 go_ret
 rw [← hwq,alloc_eq_grow,alloc_eq_grow];refine ⟨rfl,nq,#[Obj.cells #[Value.int .u64 k,v1,v2,v3,v4] 81] ++ #[Obj.cells #[Value.int .u64 k',u1,u2,u3,u4] 81] ++ osq,?_⟩;show grow (grow (grow (W.drewN nq) _) _) osq = _;simp only [grow_grow]
theorem Kk:nR Tryz.prog yJ:=by
 intro W c x y hc;have hlt:c < W.heap.size:=by
  rcases Nat.lt_or_ge c W.heap.size with h | h
  · exact h
  · simp [World.cell?,Array.getElem?_eq_none h] at hc
 obtain ⟨xs,xl,xo,xk,xh⟩:=x;obtain ⟨ys,yl,yo,yk,yh⟩:=y;simp only [yJ] at xs xl xh ys yl yh hc ⊢;obtain ⟨a0,a1,a2,a3,a4,rfl⟩:∃ a0 a1 a2 a3 a4,xs = [a0,a1,a2,a3,a4]:=by
  match xs,xl with
  | [a0,a1,a2,a3,a4],_=>exact ⟨a0,a1,a2,a3,a4,rfl⟩
 obtain ⟨b0,b1,b2,b3,b4,rfl⟩:∃ b0 b1 b2 b3 b4,ys = [b0,b1,b2,b3,b4]:=by
  match ys,yl with
  | [b0,b1,b2,b3,b4],_=>exact ⟨b0,b1,b2,b3,b4,rfl⟩
 simp only [List.getElem?_cons_zero,Option.some.injEq] at xh yh;subst xh; subst yh;exact QW xk a1 a2 a3 a4 (xo _ (by simp)) (xo _ (by simp)) (xo _ (by simp)) (xo _ (by simp)) yk b1 b2 b3 b4 (yo _ (by simp)) (yo _ (by simp)) (yo _ (by simp)) (yo _ (by simp)) c W hc hlt
end
end Go.Proofs.YtjkfknafpgfchaaGreat
