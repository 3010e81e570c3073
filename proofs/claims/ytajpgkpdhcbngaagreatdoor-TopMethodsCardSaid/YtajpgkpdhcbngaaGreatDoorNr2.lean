/-
  No ties: the runs of Euclid's algorithm, angles of the second half. A run of the kernel, of some minutes.
-/
import Derived.Test.YtajpgkpdhcbngaaGreatDoorU7
set_option maxRecDepth 100000
set_option maxHeartbeats 4000000
namespace Go.Proofs.YtajpgkpdhcbngaaGreatDoor
namespace NT
theorem run_248:runs 248 8=true:=by decide+kernel
theorem run_256:runs 256 8=true:=by decide+kernel
theorem run_264:runs 264 8=true:=by decide+kernel
theorem run_272:runs 272 8=true:=by decide+kernel
theorem run_280:runs 280 8=true:=by decide+kernel
theorem run_288:runs 288 8=true:=by decide+kernel
theorem run_296:runs 296 8=true:=by decide+kernel
theorem run_304:runs 304 8=true:=by decide+kernel
theorem run_312:runs 312 8=true:=by decide+kernel
theorem run_320:runs 320 8=true:=by decide+kernel
theorem run_328:runs 328 8=true:=by decide+kernel
theorem run_336:runs 336 8=true:=by decide+kernel
theorem run_344:runs 344 8=true:=by decide+kernel
theorem run_352:runs 352 8=true:=by decide+kernel
theorem run_360:runs 360 8=true:=by decide+kernel
theorem run_368:runs 368 8=true:=by decide+kernel
theorem run_376:runs 376 8=true:=by decide+kernel
theorem run_384:runs 384 8=true:=by decide+kernel
theorem run_392:runs 392 8=true:=by decide+kernel
theorem run_400:runs 400 8=true:=by decide+kernel
theorem run_408:runs 408 8=true:=by decide+kernel
theorem run_416:runs 416 8=true:=by decide+kernel
theorem run_424:runs 424 8=true:=by decide+kernel
theorem run_432:runs 432 8=true:=by decide+kernel
theorem run_440:runs 440 8=true:=by decide+kernel
theorem run_448:runs 448 8=true:=by decide+kernel
theorem run_456:runs 456 8=true:=by decide+kernel
theorem run_464:runs 464 8=true:=by decide+kernel
theorem run_472:runs 472 8=true:=by decide+kernel
theorem run_480:runs 480 8=true:=by decide+kernel
theorem run_488:runs 488 8=true:=by decide+kernel
theorem run_496:runs 496 4=true:=by decide+kernel
end NT
end Go.Proofs.YtajpgkpdhcbngaaGreatDoor
