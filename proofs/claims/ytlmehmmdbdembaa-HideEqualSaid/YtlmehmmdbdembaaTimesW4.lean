/-
  Walks: hide.Times, between its two loops.
-/
import Derived.Test.YtlmehmmdbdembaaTimesW6
import Derived.Test.YtlmehmmdbdembaaTail
namespace Go.Proofs.Ytlmehmmdbdembaa
open Go.RowKit
set_option linter.unusedVariables false

set_option maxHeartbeats 3200000 in
set_option maxRecDepth 100000 in
theorem times5 (g3 g5 g8 gr base : Nat) (rows0 : List (List Job)) (vs0 : List Value) (ps : List Int) (Ap : Option Addr) (cp : Nat) (E0 : Value) {u0 u1 u2 u4 u6 u7 u9 u10 u11 u13 u14 u15 u16 u17 u18 u19 u20 u21 u22 u23 u24 u25 u26 u27 u28 u29 u30 u31 u32 u33 u34 u35 u36 u37 u38 u39 u40 u41 u42 u43 u44 u45 u46 u47 u48 u49 u50 u51 u52 u53 u54 u55 u56 u57 u58 u59 u60 u61 u62 u63 u64 u65 u66 u67 u68 u69 u70 u71 u72 u73 u74 u75 u76 u77 u78 u79 u80 u81 u82 u83 u84 u85 u86 u87 u88 u89 u90 u91 u92 u93 u94 u95 u96 u97 u98 u99 u100 u101 u102 u103 u104 u105 u106 u107 u108 u109 u110 u111 u112 u113 u114 u115 u116 u117 u118 u119 u120 u121 u122 u123 u124 u125 u126 u127 u128 u129 u130 u131 u132 u133 u134 u135 u136 u137 u138 u139 u140 u141 u142 u143 u144 u145 u146 u147 u148 : Value} (w wx : World) (hps : ps.length ≤ 65536) (hI : ∀ p ∈ ps, -9223372036854775808 ≤ p ∧ p ≤ 9223372036854775807) (hn : rows0.length ≤ 64) (hok : RowsOk rows0) (hrows : Rows2 wx base wx.heap.size gr rows0 vs0)
    (h3 : Blk wx g3 3 #[.int .i64 (rows0.length : Int)]) (h8 : Blk wx g8 68 #[.slice (some ⟨gr, 0, none⟩) rows0.length rows0.length]) (h5 : Blk wx g5 41 #[E0, .slice Ap ps.length cp]) (hreads : Reads wx w.heap.size 1 Ap ps.length (ps.map (Value.int .i64)))
    (hg3 : w.heap.size ≤ g3 ∧ g3 < base) (hg5 : w.heap.size ≤ g5 ∧ g5 < base) (hg8 : w.heap.size ≤ g8 ∧ g8 < base) (hgr : w.heap.size ≤ gr ∧ gr < base) (hne : g3 ≠ gr ∧ g5 ≠ gr ∧ g8 ≠ gr) (hbase : base ≤ wx.heap.size) (hbel : Below w.heap.size w wx) (hlens : ∀ js ∈ rows0, js.length ≤ 65536) :
    Code.wp Try.prog (bodyTail Try.f13 5) (bodyPost Try.prog Try.f13 (TimesEnd (runM 0 rows0 ps [], 0) w)) ⟨#[u0, u1, u2, .pointer (some ⟨g3, 0, none⟩), u4, .pointer (some ⟨g5, 0, none⟩), u6, u7, .pointer (some ⟨g8, 0, none⟩), u9, u10, u11, .func (.func 32) #[] #[.pointer (some ⟨g3, 0, none⟩), .pointer (some ⟨g8, 0, none⟩)], u13, u14, u15, u16, u17, u18, u19, u20, u21, u22, u23, u24, u25, u26, u27, u28, u29, u30, u31, u32, u33, u34, u35, u36, u37, u38, u39, u40, u41, u42, u43, u44, u45, u46, u47, u48, u49, u50, u51, u52, u53, u54, u55, u56, u57, u58, u59, u60, u61, u62, u63, u64, u65, u66, u67, u68, u69, u70, u71, u72, u73, u74, u75, u76, u77, u78, u79, u80, u81, u82, u83, u84, u85, u86, u87, u88, u89, u90, u91, u92, u93, u94, u95, u96, u97, u98, u99, u100, u101, u102, u103, u104, u105, u106, u107, u108, u109, u110, u111, u112, u113, u114, u115, u116, u117, u118, u119, u120, u121, u122, u123, u124, u125, u126, u127, u128, u129, u130, u131, u132, u133, u134, u135, u136, u137, u138, u139, u140, u141, u142, u143, u144, u145, u146, u147, u148], []⟩ wx := by
  conv => arg 2; whnf
  refine wp_seq_k fun K hK => ?_
  have HK := Lib.hid hK
  clear hK
  go_wp2_with fail
  exact HK.out _ _ (times6 g3 g5 g8 gr base rows0 vs0 ps Ap cp E0 w _ hps hI hn hok hrows h3 h8 h5 hreads hg3 hg5 hg8 hgr hne hbase hbel hlens)

set_option maxHeartbeats 3200000 in
set_option maxRecDepth 100000 in
theorem times4 (g3 g5 g8 gr base : Nat) (rows0 : List (List Job)) (vs0 : List Value) (ps : List Int) (Ap : Option Addr) (cp : Nat) (E0 : Value) {u0 u1 u2 u4 u6 u7 u9 u10 u11 u12 u13 u14 u15 u16 u17 u18 u19 u20 u21 u22 u23 u24 u25 u26 u27 u28 u29 u30 u31 u32 u33 u34 u35 u36 u37 u38 u39 u40 u41 u42 u43 u44 u45 u46 u47 u48 u49 u50 u51 u52 u53 u54 u55 u56 u57 u58 u59 u60 u61 u62 u63 u64 u65 u66 u67 u68 u69 u70 u71 u72 u73 u74 u75 u76 u77 u78 u79 u80 u81 u82 u83 u84 u85 u86 u87 u88 u89 u90 u91 u92 u93 u94 u95 u96 u97 u98 u99 u100 u101 u102 u103 u104 u105 u106 u107 u108 u109 u110 u111 u112 u113 u114 u115 u116 u117 u118 u119 u120 u121 u122 u123 u124 u125 u126 u127 u128 u129 u130 u131 u132 u133 u134 u135 u136 u137 u138 u139 u140 u141 u142 u143 u144 u145 u146 u147 u148 : Value} (w wx : World) (hps : ps.length ≤ 65536) (hI : ∀ p ∈ ps, -9223372036854775808 ≤ p ∧ p ≤ 9223372036854775807) (hn : rows0.length ≤ 64) (hok : RowsOk rows0) (hrows : Rows2 wx base wx.heap.size gr rows0 vs0)
    (h3 : Blk wx g3 3 #[.int .i64 (rows0.length : Int)]) (h8 : Blk wx g8 68 #[.slice (some ⟨gr, 0, none⟩) rows0.length rows0.length]) (h5 : Blk wx g5 41 #[E0, .slice Ap ps.length cp]) (hreads : Reads wx w.heap.size 1 Ap ps.length (ps.map (Value.int .i64)))
    (hg3 : w.heap.size ≤ g3 ∧ g3 < base) (hg5 : w.heap.size ≤ g5 ∧ g5 < base) (hg8 : w.heap.size ≤ g8 ∧ g8 < base) (hgr : w.heap.size ≤ gr ∧ gr < base) (hne : g3 ≠ gr ∧ g5 ≠ gr ∧ g8 ≠ gr) (hbase : base ≤ wx.heap.size) (hbel : Below w.heap.size w wx) (hlens : ∀ js ∈ rows0, js.length ≤ 65536) :
    Code.wp Try.prog (bodyTail Try.f13 4) (bodyPost Try.prog Try.f13 (TimesEnd (runM 0 rows0 ps [], 0) w)) ⟨#[u0, u1, u2, .pointer (some ⟨g3, 0, none⟩), u4, .pointer (some ⟨g5, 0, none⟩), u6, u7, .pointer (some ⟨g8, 0, none⟩), u9, u10, u11, u12, u13, u14, u15, u16, u17, u18, u19, u20, u21, u22, u23, u24, u25, u26, u27, u28, u29, u30, u31, u32, u33, u34, u35, u36, u37, u38, u39, u40, u41, u42, u43, u44, u45, u46, u47, u48, u49, u50, u51, u52, u53, u54, u55, u56, u57, u58, u59, u60, u61, u62, u63, u64, u65, u66, u67, u68, u69, u70, u71, u72, u73, u74, u75, u76, u77, u78, u79, u80, u81, u82, u83, u84, u85, u86, u87, u88, u89, u90, u91, u92, u93, u94, u95, u96, u97, u98, u99, u100, u101, u102, u103, u104, u105, u106, u107, u108, u109, u110, u111, u112, u113, u114, u115, u116, u117, u118, u119, u120, u121, u122, u123, u124, u125, u126, u127, u128, u129, u130, u131, u132, u133, u134, u135, u136, u137, u138, u139, u140, u141, u142, u143, u144, u145, u146, u147, u148], []⟩ wx := by
  conv => arg 2; whnf
  refine wp_seq_k fun K hK => ?_
  have HK := Lib.hid hK
  clear hK
  go_wp2_with fail
  exact HK.out _ _ (times5 g3 g5 g8 gr base rows0 vs0 ps Ap cp E0 w _ hps hI hn hok hrows h3 h8 h5 hreads hg3 hg5 hg8 hgr hne hbase hbel hlens)


end Go.Proofs.Ytlmehmmdbdembaa
