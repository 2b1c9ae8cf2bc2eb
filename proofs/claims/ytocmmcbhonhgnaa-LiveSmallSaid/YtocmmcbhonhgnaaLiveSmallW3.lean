/-
  Walks: LiveSmall, the long text.
-/
import Derived.Test.YtocmmcbhonhgnaaLiveSmallW4
namespace Go.Proofs.Ytocmmcbhonhgnaa
open Go.RowKit
set_option linter.unusedVariables false

def z33 : Array Value := (u8s (List.replicate 33 0)).toArray
def s33 : ByteArray := ⟨(List.replicate 33 (0 : UInt8)).toArray⟩
theorem mk33 (w : World) : (Instr.makeSlice 41 (.int .i64 33) (.int .i64 33)).run Try.prog w = .ok (.slice (some ⟨w.heap.size, 0, none⟩) 33 33) (w.alloc (.cells z33 5)) := by kernel_rfl

set_option maxHeartbeats 3200000 in
set_option maxRecDepth 100000 in
theorem small3  {u1 u2 u3 u4 u5 u6 u7 u8 u9 u10 u11 u12 u13 u14 u15 u16 u17 u18 u19 u20 u21 u22 u23 u24 u25 u26 u27 u28 u29 u30 u31 u32 u33 u34 u35 u36 u37 u38 u39 u40 u41 u42 u43 u44 u45 u46 u47 u48 u49 u50 u51 u52 u53 u54 u55 u56 u57 u58 u59 u60 u61 u62 u63 u64 u65 u66 u67 u68 u69 u70 u71 u72 u73 u74 u75 u76 u77 u78 u79 u80 u81 u82 u83 u84 u85 u86 u87 u88 u89 u90 u91 u92 u93 u94 u95 u96 u97 u98 u99 u100 u101 u102 u103 u104 u105 u106 u107 u108 u109 u110 u111 u112 u113 u114 u115 u116 u117 u118 u119 u120 u121 u122 u123 u124 u125 u126 u127 u128 u129 u130 : Value} (w wx : World) (hbel : Below w.heap.size w wx) :
    Code.wp Try.prog (bodyTail Try.f5 3) (bodyPost Try.prog Try.f5 (BoolEnd true w)) ⟨#[.bool false, u1, u2, u3, u4, u5, u6, u7, u8, u9, u10, u11, u12, u13, u14, u15, u16, u17, u18, u19, u20, u21, u22, u23, u24, u25, u26, u27, u28, u29, u30, u31, u32, u33, u34, u35, u36, u37, u38, u39, u40, u41, u42, u43, u44, u45, u46, u47, u48, u49, u50, u51, u52, u53, u54, u55, u56, u57, u58, u59, u60, u61, u62, u63, u64, u65, u66, u67, u68, u69, u70, u71, u72, u73, u74, u75, u76, u77, u78, u79, u80, u81, u82, u83, u84, u85, u86, u87, u88, u89, u90, u91, u92, u93, u94, u95, u96, u97, u98, u99, u100, u101, u102, u103, u104, u105, u106, u107, u108, u109, u110, u111, u112, u113, u114, u115, u116, u117, u118, u119, u120, u121, u122, u123, u124, u125, u126, u127, u128, u129, u130], []⟩ wx := by
  conv => arg 2; whnf
  refine wp_seq_k fun K hK => ?_
  have HK := Lib.hid hK
  clear hK
  have hmk := mk33 wx
  have hblk : Blk (wx.alloc (.cells z33 5)) wx.heap.size 5 z33 := Blk.new _ _ _
  have hr : Reads (wx.alloc (.cells z33 5)) (wx.alloc (.cells z33 5)).heap.size 1 (some ⟨wx.heap.size, 0, none⟩) 33 (u8s (List.replicate 33 0)) :=
    ⟨rfl, fun _ => ⟨_, rfl, by simp, fun j u hu => by
      have := hblk.cell j
      rw [show ((⟨wx.heap.size, 0, none⟩ : Addr).add j) = ⟨wx.heap.size, j, none⟩ by unfold Addr.add; split <;> simp_all]
      rw [this, ← hu]
      exact List.getElem?_toArray⟩⟩
  have hcv := run_string_of_reads (cap := 33) 41 9 5 Try.underlying41 Try.underlying5 Try.underlying9 (fun h => by cases h) hr
  clear hr hblk
  rw [show (⟨(List.replicate 33 (0 : UInt8)).toArray⟩ : ByteArray) = s33 from rfl] at hcv
  have hb2 := below_alloc hbel (.cells z33 5)
  go_wp2_with fail
  exact HK.out _ _ (small4 s33 w _ (by decide) hb2)

end Go.Proofs.Ytocmmcbhonhgnaa
