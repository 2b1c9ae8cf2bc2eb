/-
  Walks: LiveSmall, the second table of requests.
-/
import Derived.Test.YtocmmcbhonhgnaaLiveSmallW5
namespace Go.Proofs.Ytocmmcbhonhgnaa
open Go.RowKit
set_option linter.unusedVariables false

set_option maxHeartbeats 3200000 in
set_option maxRecDepth 100000 in
theorem small4 (s : ByteArray) {u1 u2 u3 u4 u5 u6 u7 u8 u10 u11 u12 u13 u14 u15 u16 u17 u18 u19 u20 u21 u22 u23 u24 u25 u26 u27 u28 u29 u30 u31 u32 u33 u34 u35 u36 u37 u38 u39 u40 u41 u42 u43 u44 u45 u46 u47 u48 u49 u50 u51 u52 u53 u54 u55 u56 u57 u58 u59 u60 u61 u62 u63 u64 u65 u66 u67 u68 u69 u70 u71 u72 u73 u74 u75 u76 u77 u78 u79 u80 u81 u82 u83 u84 u85 u86 u87 u88 u89 u90 u91 u92 u93 u94 u95 u96 u97 u98 u99 u100 u101 u102 u103 u104 u105 u106 u107 u108 u109 u110 u111 u112 u113 u114 u115 u116 u117 u118 u119 u120 u121 u122 u123 u124 u125 u126 u127 u128 u129 u130 : Value} (w wx : World) (hs : 33 ≤ s.size) (hbel : Below w.heap.size w wx) :
    Code.wp Try.prog (bodyTail Try.f5 4) (bodyPost Try.prog Try.f5 (BoolEnd true w)) ⟨#[.bool false, u1, u2, u3, u4, u5, u6, u7, u8, .string s, u10, u11, u12, u13, u14, u15, u16, u17, u18, u19, u20, u21, u22, u23, u24, u25, u26, u27, u28, u29, u30, u31, u32, u33, u34, u35, u36, u37, u38, u39, u40, u41, u42, u43, u44, u45, u46, u47, u48, u49, u50, u51, u52, u53, u54, u55, u56, u57, u58, u59, u60, u61, u62, u63, u64, u65, u66, u67, u68, u69, u70, u71, u72, u73, u74, u75, u76, u77, u78, u79, u80, u81, u82, u83, u84, u85, u86, u87, u88, u89, u90, u91, u92, u93, u94, u95, u96, u97, u98, u99, u100, u101, u102, u103, u104, u105, u106, u107, u108, u109, u110, u111, u112, u113, u114, u115, u116, u117, u118, u119, u120, u121, u122, u123, u124, u125, u126, u127, u128, u129, u130], []⟩ wx := by
  conv => arg 2; whnf
  refine wp_seq_k fun K hK => ?_
  have HK := Lib.hid hK
  clear hK
  refine wp_seq_k fun K2 hK2 => ?_
  have HK2 := Lib.hid hK2
  clear hK2
  go_wp2_with fail
  have hs32 : (32 : Int) ≤ (s.size : Int) := by omega
  have hs16 : (16 : Int) ≤ (s.size : Int) := by omega
  go_region_held3 (fun w' => w.heap.size ≤ w'.heap.size) (first | (have := hbel.size; simp; omega) | (simp at *; omega)) (first | fail)
  generalize hW : (wx.alloc (Obj.cells _ 31)).drew = W
  have hrows : Blk W wx.heap.size 31 ((smallReqs (s.extract 0 32) s (s.extract 0 16)).flatMap Req.row).toArray := by rw [← hW]; exact Blk.new _ _ _
  have hbelW : Below w.heap.size w W := by rw [← hW]; exact (below_alloc hbel _).drew
  clear hW hs32 hs16
  have hlen : (smallReqs (s.extract 0 32) s (s.extract 0 16)).length = 10 := rfl
  generalize smallReqs (s.extract 0 32) s (s.extract 0 16) = l at hrows hlen
  exact HK2.out _ _ (small4b l _ w _ K HK hlen hrows hbelW)

end Go.Proofs.Ytocmmcbhonhgnaa
