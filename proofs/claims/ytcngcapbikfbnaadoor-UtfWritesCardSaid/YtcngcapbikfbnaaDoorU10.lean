/-
  Texts: that the laws can be asked. Constants alone.
-/
import Derived.Test.YtcngcapbikfbnaaDoorU6
import Derived.Test.YtcngcapbikfbnaaDoorU8
import Derived.Test.YtcngcapbikfbnaaDoorU9
namespace Go.Proofs.YtcngcapbikfbnaaDoor.W
open Go Go.Vm Go.Proofs
set_option maxRecDepth 100000
set_option linter.unusedSimpArgs false
set_option maxHeartbeats 1000000
/-! typecase/typecaselaw02.alive -/
def c9 : AC :=
 (.seq (.reg [oo 0 (.mov (nB false))])
 (.seq (.reg [oo 12 (.bslice 1 [(.c (.pure (.int .i32 228))), (.c (.pure (.int .i32 8364)))]),
 oo 13 (.call 10 [(.s 12)]),
 oo 11 (.mov (.s 13)),
 oo 14 (.ext 0 (.s 11)),
 oo 15 (.ext 1 (.s 11)),
 oo 1 (.mov (.s 14)),
 oo 2 (.mov (.s 15))])
 (.seq (.reg [oo 17 (.bslice 1 [(.c (.pure (.int .u8 97))), (.c (.pure (.int .u8 192))), (.c (.pure (.int .u8 128)))]),
 oo 18 (.call 21 [(.s 17)]),
 oo 16 (.mov (.s 18)),
 oo 19 (.ext 0 (.s 16)),
 oo 20 (.ext 1 (.s 16)),
 oo 21 (.ext 2 (.s 16)),
 oo 3 (.mov (.s 19)),
 oo 4 (.mov (.s 20)),
 oo 5 (.mov (.s 21))])
 (.seq (.reg [oo 23 (.bslice 1 [(.c (.pure (.int .u8 97))), (.c (.pure (.int .u8 226))), (.c (.pure (.int .u8 130)))]),
 oo 24 (.call 21 [(.s 23)]),
 oo 22 (.mov (.s 24)),
 oo 25 (.ext 0 (.s 22)),
 oo 26 (.ext 1 (.s 22)),
 oo 27 (.ext 2 (.s 22)),
 oo 6 (.mov (.s 25)),
 oo 7 (.mov (.s 26)),
 oo 8 (.mov (.s 27))])
 (.seq (.reg [oo 29 (.bslice 1 [(.c (.pure (.int .i32 128512)))]),
 oo 30 (.call 12 [(.s 29)]),
 oo 28 (.mov (.s 30)),
 oo 31 (.ext 0 (.s 28)),
 oo 32 (.ext 1 (.s 28)),
 oo 9 (.mov (.s 31)),
 oo 10 (.mov (.s 32))])
 (.seq (.reg [oo 33 (.mov (.s 2)),
 oo 34 (.bin .eql (.s 33) (nI 0)),
 oo 35 (.mov (.s 34)),
 og 36 35 true (.mov (.s 1)),
 og 37 35 true (.b2s (.s 36)),
 og 38 35 true (.eqs false (.s 37) (.c (.pure (.str [195, 164, 226, 130, 172])))),
 oo 39 (.pick (.s 35) (.s 38) (nB false)),
 oo 40 (.mov (.s 39)),
 og 41 40 true (.mov (.s 4)),
 og 42 40 true (.bin .eql (.s 41) (nI 1)),
 oo 43 (.pick (.s 40) (.s 42) (nB false)),
 oo 44 (.mov (.s 43)),
 og 45 44 true (.mov (.s 5)),
 og 46 44 true (.bin .eql (.s 45) (nI 3)),
 oo 47 (.pick (.s 44) (.s 46) (nB false)),
 oo 48 (.mov (.s 47)),
 og 49 48 true (.mov (.s 7)),
 og 50 48 true (.bin .eql (.s 49) (nI 1)),
 oo 51 (.pick (.s 48) (.s 50) (nB false)),
 oo 52 (.mov (.s 51)),
 og 53 52 true (.mov (.s 8)),
 og 54 52 true (.bin .eql (.s 53) (nI 4)),
 oo 55 (.pick (.s 52) (.s 54) (nB false)),
 oo 56 (.mov (.s 55)),
 og 57 56 true (.mov (.s 10)),
 og 58 56 true (.bin .eql (.s 57) (nI 0)),
 oo 59 (.pick (.s 56) (.s 58) (nB false)),
 oo 60 (.mov (.s 59)),
 og 61 60 true (.mov (.s 9)),
 og 62 60 true (.len (.s 61)),
 og 63 60 true (.bin .eql (.s 62) (nI 2)),
 oo 64 (.pick (.s 60) (.s 63) (nB false)),
 oo 65 (.mov (.s 64)),
 og 66 65 true (.mov (.s 9)),
 og 67 65 true (.idxA 1 (.s 66) (nI 0)),
 og 68 65 true (.load false 1 (.s 67)),
 og 69 65 true (.bin .eql (.s 68) (.c (.pure (.int .u16 55357)))),
 oo 70 (.pick (.s 65) (.s 69) (nB false)),
 oo 71 (.mov (.s 70)),
 og 72 71 true (.mov (.s 9)),
 og 73 71 true (.idxA 1 (.s 72) (nI 1)),
 og 74 71 true (.load false 1 (.s 73)),
 og 75 71 true (.bin .eql (.s 74) (.c (.pure (.int .u16 56832)))),
 oo 76 (.pick (.s 71) (.s 75) (nB false)),
 oo 77 (.mov (.s 76)),
 og 78 77 true (.bslice 1 [(.c (.pure (.int .i32 228))), (.c (.pure (.int .i32 97)))]),
 og 79 77 true (.call 19 [(.s 78), (nI 1)]),
 og 80 77 true (.bin .eql (.s 79) (nI 0)),
 oo 81 (.pick (.s 77) (.s 80) (nB false)),
 oo 0 (.mov (.s 81))])
 .ret))))))
theorem k9 : OkF 9 Tryd.f9 c9 [.t 0] 82 := ⟨Tryd.func9, by kernel_rfl, by kernel_rfl, by kernel_rfl, Tryd.ntmps9⟩
theorem alive_q : FnQ Tryd.prog 9 [] [.bool true] := by
 refine k9.q (by simp) ?_
 unfold c9
 simp only [vmp,↓vmd,seval]
 refine onC_frz 0 (onC_q (enc_q [228, 8364] (by simp)) rfl ?_)
 rw [show encR [228, 8364] = ([195, 164, 226, 130, 172], 0) by decide +kernel]
 (first | apply envO | apply envQ); simp only [vmp,↓vmd,seval]; rfl
 simp only [vmp,↓vmd,seval]
 refine onC_frz 1 (onC_q (decode_q [97, 192, 128] (by simp [Byt]) (by simp)) rfl ?_)
 rw [show decR [97, 192, 128] = ([], 1, 3) by decide +kernel]
 (first | apply envO | apply envQ); simp only [vmp,↓vmd,seval]; rfl
 simp only [vmp,↓vmd,seval]
 refine onC_frz 2 (onC_q (decode_q [97, 226, 130] (by simp [Byt]) (by simp)) rfl ?_)
 rw [show decR [97, 226, 130] = ([], 1, 4) by decide +kernel]
 (first | apply envO | apply envQ); simp only [vmp,↓vmd,seval]; rfl
 simp only [vmp,↓vmd,seval]
 refine onC_frz 3 (onC_q (units_q [128512] (by simp)) rfl ?_)
 rw [show uniR [128512] = ([55357, 56832], 0) by decide +kernel]
 (first | apply envO | apply envQ); simp only [vmp,↓vmd,seval]; rfl
 simp only [vmp,↓vmd,seval]
 refine onS_eq (b2sF_ints (ns := [195, 164, 226, 130, 172])) ?_
 have e1 : ([195, 164, 226, 130, 172] : List Int).map (fun n => UInt8.ofNat n.toNat) = [195, 164, 226, 130, 172] := by decide +kernel
 simp only [e1, vmp,↓vmd,seval]
 refine onC_frz 4 (onC_q (place_q [228, 97] 1 (by simp) (by omega)) rfl ?_)
 rw [show placeF [228, 97] 1 = 0 by decide +kernel]
 (first | apply envO | apply envQ); simp only [vmp,↓vmd,seval]; rfl
 simp only [vmp,↓vmd,seval]
 exact gives_pure
end Go.Proofs.YtcngcapbikfbnaaDoor.W
