/-
  No ties: the runs of Euclid's algorithm, angles of the first half. A run of the kernel, of some minutes.
-/
import Derived.Test.YtajpgkpdhcbngaaGreatDoorU7
set_option maxRecDepth 100000
set_option maxHeartbeats 4000000
namespace Go.Proofs.YtajpgkpdhcbngaaGreatDoor
namespace NT
theorem run_0:runs 0 8=true:=by decide+kernel
theorem run_8:runs 8 8=true:=by decide+kernel
theorem run_16:runs 16 8=true:=by decide+kernel
theorem run_24:runs 24 8=true:=by decide+kernel
theorem run_32:runs 32 8=true:=by decide+kernel
theorem run_40:runs 40 8=true:=by decide+kernel
theorem run_48:runs 48 8=true:=by decide+kernel
theorem run_56:runs 56 8=true:=by decide+kernel
theorem run_64:runs 64 8=true:=by decide+kernel
theorem run_72:runs 72 8=true:=by decide+kernel
theorem run_80:runs 80 8=true:=by decide+kernel
theorem run_88:runs 88 8=true:=by decide+kernel
theorem run_96:runs 96 8=true:=by decide+kernel
theorem run_104:runs 104 8=true:=by decide+kernel
theorem run_112:runs 112 8=true:=by decide+kernel
theorem run_120:runs 120 8=true:=by decide+kernel
theorem run_128:runs 128 8=true:=by decide+kernel
theorem run_136:runs 136 8=true:=by decide+kernel
theorem run_144:runs 144 8=true:=by decide+kernel
theorem run_152:runs 152 8=true:=by decide+kernel
theorem run_160:runs 160 8=true:=by decide+kernel
theorem run_168:runs 168 8=true:=by decide+kernel
theorem run_176:runs 176 8=true:=by decide+kernel
theorem run_184:runs 184 8=true:=by decide+kernel
theorem run_192:runs 192 8=true:=by decide+kernel
theorem run_200:runs 200 8=true:=by decide+kernel
theorem run_208:runs 208 8=true:=by decide+kernel
theorem run_216:runs 216 8=true:=by decide+kernel
theorem run_224:runs 224 8=true:=by decide+kernel
theorem run_232:runs 232 8=true:=by decide+kernel
theorem run_240:runs 240 8=true:=by decide+kernel
end NT
end Go.Proofs.YtajpgkpdhcbngaaGreatDoor
