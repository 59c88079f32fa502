/- Calls that TopNames makes, each with like arguments and like memory, and what they come to (no condition). -/
import Derived.Test.YtdkeobkooiaacaaGreatDoorTab
open Go Go.Proofs.YtdkeobkooiaacaaGreatDoor.Ev
namespace Go.Proofs.YtdkeobkooiaacaaGreatDoor.Tab
set_option maxRecDepth 100000
def m0 : Memo := ⟨[(S [105, 32, 45, 32, 110, 32, 60, 61, 32, 48]), (S [32, 60, 61, 32])], [], i5, [], 0⟩
theorem k0 : MemoOk Tryz.prog 596 m0 := told0
def m1 : Memo := ⟨[(S [105, 32, 45, 32, 110]), (S [32, 45, 32])], [], i1, [], 0⟩
theorem k1 : MemoOk Tryz.prog 596 m1 := told1
def m2 : Memo := ⟨[(S [105, 45, 110, 60, 61, 48]), (S [60, 61])], [], i3, [], 0⟩
theorem k2 : MemoOk Tryz.prog 596 m2 := told2
def m3 : Memo := ⟨[i2, (L p1 0 9 1)], [(.row [(I 4398046511104), (I 4398046511104), (I 4398046511104), (I 4398046511104), (I 4398046511104), (I 4398046511104), (I 4398046511104), (I 4398046511104), (I 4398046511104)] 3 1 true false 0 none)], (L p2 0 9 1), [(p2, some (.row [i0, (I 1099511627776), (I 1099511627776), (I 1099511627776), i0, (I 2199023255552), (I 1099511627776), (I 2199023255552), i0] 3 1 true false 0 none))], 1⟩
theorem k3 : MemoOk Tryz.prog 59 m3 := piece (mm := 0) (l := []) memos_nil (by kernel_rfl)
def m4 : Memo := ⟨[i2, (L p1 0 9 1)], [(.row [i0, (I 1099511627776), (I 1099511627776), (I 1099511627776), i0, (I 2199023255552), (I 1099511627776), (I 2199023255552), i0] 3 1 true false 0 none)], (L p2 0 9 1), [(p2, some (.row [i0, (I 1099511627776), (I 1099511627776), (I 1099511627776), i0, (I 2199023255552), (I 1099511627776), (I 2199023255552), i0] 3 1 true false 0 none))], 1⟩
theorem k4 : MemoOk Tryz.prog 60 m4 := piece (mm := 0) (l := []) memos_nil (by kernel_rfl)
def m5 : Memo := ⟨[i2, (L p1 0 9 1)], [(.row [i0, (I 1099511627776), (I 1099511627776), i3, i0, (I 2199023255552), (I 1099511627776), (I 2199023255552), i0] 3 1 true false 0 none)], (L p2 0 9 1), [(p2, some (.row [i0, (I 1099511627776), (I 1099511627776), i3, i0, (I 2199023255552), (I 1099511627776), (I 2199023255552), i0] 3 1 true false 0 none))], 1⟩
theorem k5 : MemoOk Tryz.prog 59 m5 := piece (mm := 0) (l := []) memos_nil (by kernel_rfl)
def m6 : Memo := ⟨[i2, (L p1 0 9 1)], [(.row [i0, (I 1099511627776), (I 1099511627776), i3, i0, (I 2199023255552), (I 1099511627776), (I 2199023255552), i0] 3 1 true false 0 none)], (L p2 0 9 1), [(p2, some (.row [i0, (I 1099511627776), (I 1099511627776), i3, i0, (I 1099511627779), (I 1099511627776), (I 2199023255552), i0] 3 1 true false 0 none))], 1⟩
theorem k6 : MemoOk Tryz.prog 60 m6 := piece (mm := 0) (l := []) memos_nil (by kernel_rfl)
def m7 : Memo := ⟨[i2, (L p1 0 9 1)], [(.row [i0, (I 1099511627776), (I 1099511627776), i3, i0, (I 1099511627779), (I 1099511627776), (I 2199023255552), i0] 3 1 true false 0 none)], (L p2 0 9 1), [(p2, some (.row [i0, (I 1099511627776), (I 1099511627776), i3, i0, (I 1099511627779), (I 1099511627776), (I 2199023255552), i0] 3 1 true false 0 none))], 1⟩
theorem k7 : MemoOk Tryz.prog 60 m7 := piece (mm := 0) (l := []) memos_nil (by kernel_rfl)
def m8 : Memo := ⟨[i2, (L p1 0 9 1)], [(.row [i0, i0, (I 1099511627776), i3, i0, (I 1099511627779), (I 1099511627776), (I 2199023255552), i0] 3 1 true false 0 none)], (L p2 0 9 1), [(p2, some (.row [i0, i0, (I 1099511627776), i3, i0, (I 1099511627779), (I 1099511627776), (I 2199023255552), i0] 3 1 true false 0 none))], 1⟩
theorem k8 : MemoOk Tryz.prog 59 m8 := piece (mm := 0) (l := []) memos_nil (by kernel_rfl)
def m9 : Memo := ⟨[i2, (L p1 0 9 1)], [(.row [i0, i0, (I 1099511627776), i3, i0, (I 1099511627779), (I 1099511627776), (I 2199023255552), i0] 3 1 true false 0 none)], (L p2 0 9 1), [(p2, some (.row [i0, i0, (I 1099511627776), i3, i0, (I 1099511627779), (I 1099511627776), (I 1099511627776), i0] 3 1 true false 0 none))], 1⟩
theorem k9 : MemoOk Tryz.prog 60 m9 := piece (mm := 0) (l := []) memos_nil (by kernel_rfl)
def m10 : Memo := ⟨[i2, (L p1 0 9 1)], [(.row [i0, i0, (I 1099511627776), i3, i0, (I 1099511627779), (I 1099511627776), (I 1099511627776), i0] 3 1 true false 0 none)], (L p2 0 9 1), [(p2, some (.row [i0, i0, (I 1099511627776), i3, i0, (I 1099511627779), (I 1099511627776), (I 1099511627776), i0] 3 1 true false 0 none))], 1⟩
theorem k10 : MemoOk Tryz.prog 60 m10 := piece (mm := 0) (l := []) memos_nil (by kernel_rfl)
def m11 : Memo := ⟨[i2, (L p1 0 9 1)], [(.row [i0, i0, (I 1099511627776), i3, i0, (I 1099511627779), i2, (I 1099511627776), i0] 3 1 true false 0 none)], (L p2 0 9 1), [(p2, some (.row [i0, i0, (I 1099511627776), i3, i0, (I 1099511627779), i2, (I 1099511627776), i0] 3 1 true false 0 none))], 1⟩
theorem k11 : MemoOk Tryz.prog 59 m11 := piece (mm := 0) (l := []) memos_nil (by kernel_rfl)
def m12 : Memo := ⟨[i2, (L p1 0 9 1)], [(.row [i0, i0, (I 1099511627776), i3, i0, (I 1099511627779), i2, (I 1099511627776), i0] 3 1 true false 0 none)], (L p2 0 9 1), [(p2, some (.row [i0, i0, (I 1099511627776), i3, i0, (I 1099511627779), i2, i2, i0] 3 1 true false 0 none))], 1⟩
theorem k12 : MemoOk Tryz.prog 60 m12 := piece (mm := 0) (l := []) memos_nil (by kernel_rfl)
def m13 : Memo := ⟨[i2, (L p1 0 9 1)], [(.row [i0, i0, (I 1099511627776), i3, i0, (I 1099511627779), i2, i2, i0] 3 1 true false 0 none)], (L p2 0 9 1), [(p2, some (.row [i0, i0, (I 1099511627776), i3, i0, (I 1099511627779), i2, i2, i0] 3 1 true false 0 none))], 1⟩
theorem k13 : MemoOk Tryz.prog 60 m13 := piece (mm := 0) (l := []) memos_nil (by kernel_rfl)
def m14 : Memo := ⟨[i2, (L p1 0 9 1)], [(.row [i0, i0, (J 1), i3, i0, (I 1099511627779), i2, i2, i0] 3 1 true false 0 none)], (L p2 0 9 1), [(p2, some (.row [i0, i0, (J 1), i3, i0, (I 1099511627779), i2, i2, i0] 3 1 true false 0 none))], 1⟩
theorem k14 : MemoOk Tryz.prog 59 m14 := piece (mm := 0) (l := []) memos_nil (by kernel_rfl)
def m15 : Memo := ⟨[i2, (L p1 0 9 1)], [(.row [i0, i0, (J 1), i3, i0, (I 1099511627779), i2, i2, i0] 3 1 true false 0 none)], (L p2 0 9 1), [(p2, some (.row [i0, i0, (J 1), i3, i0, i1, i2, i2, i0] 3 1 true false 0 none))], 1⟩
theorem k15 : MemoOk Tryz.prog 60 m15 := piece (mm := 0) (l := []) memos_nil (by kernel_rfl)
def m16 : Memo := ⟨[i2, (L p1 0 9 1)], [(.row [i0, i0, (J 1), i3, i0, i1, i2, i2, i0] 3 1 true false 0 none)], (L p2 0 9 1), [(p2, some (.row [i0, i0, (J 1), i3, i0, i1, i2, i2, i0] 3 1 true false 0 none))], 1⟩
theorem k16 : MemoOk Tryz.prog 60 m16 := piece (mm := 0) (l := []) memos_nil (by kernel_rfl)
def m17 : Memo := ⟨[(L p1 0 2 2)], [(.row [i0, i3, i2, i2] 72 2 false false 0 none)], (A [i2, (L p2 0 9 1)]), [(p2, some (.row [i0, i0, (J 1), i3, i0, i1, i2, i2, i0] 3 1 true false 0 none))], 1⟩
theorem k17 : MemoOk Tryz.prog 14 m17 := piece (mm := 1729382256910270464) (l := [(59, m3), (60, m4), (59, m5), (60, m6), (60, m7), (59, m8), (60, m9), (60, m10), (59, m11), (60, m12), (60, m13), (59, m14), (60, m15), (60, m16)]) (memos_cons k3 (memos_cons k4 (memos_cons k5 (memos_cons k6 (memos_cons k7 (memos_cons k8 (memos_cons k9 (memos_cons k10 (memos_cons k11 (memos_cons k12 (memos_cons k13 (memos_cons k14 (memos_cons k15 (memos_cons k16 memos_nil)))))))))))))) (by kernel_rfl)
def m18 : Memo := ⟨[], [], (.tuple [(A [(S [112]), (L p1 0 2 1), (L p2 0 2 3), (L p3 0 1 7)]), (L p4 0 2 2)]), [(p1, some (.row [(S [105]), (S [110])] 9 1 false false 0 none)), (p2, some (.row [(S [109, 97, 105, 110]), (S [97, 46, 103, 111]), i3, (S [109, 97, 105, 110]), (S [97, 46, 103, 111]), i3] 65 3 false false 0 none)), (p3, some (.row [i0, i1, i5, i1, i2, i0, i0] 69 7 false false 0 none)), (p4, some (.row [i2, (L p5 0 9 1), i2, (L p6 0 9 1)] 35 2 false false 0 none)), (p5, some (.row [i0, i0, (J 1), i3, i0, i1, i2, i2, i0] 3 1 true false 0 none)), (p6, some (.row [i0, (I 1099511627776), (I 1099511627776), (I 1099511627776), i0, (I 2199023255552), (I 1099511627776), (I 2199023255552), i0] 3 1 true false 0 none))], 6⟩
theorem k18 : MemoOk Tryz.prog 6 m18 := piece (mm := 1729382256910286848) (l := [(59, m3), (60, m4), (14, m17)]) (memos_cons k3 (memos_cons k4 (memos_cons k17 memos_nil))) (by kernel_rfl)
def m19 : Memo := ⟨[(S [112]), i32, (.func 259 [] [])], [], T, [], 0⟩
theorem k19 : MemoOk Tryz.prog 258 m19 := piece (mm := 0) (l := []) memos_nil (by kernel_rfl)
def m20 : Memo := ⟨[(S [105]), i32, (.func 259 [] [])], [], T, [], 0⟩
theorem k20 : MemoOk Tryz.prog 258 m20 := piece (mm := 0) (l := []) memos_nil (by kernel_rfl)
def m21 : Memo := ⟨[(S [110]), i32, (.func 259 [] [])], [], T, [], 0⟩
theorem k21 : MemoOk Tryz.prog 258 m21 := piece (mm := 0) (l := []) memos_nil (by kernel_rfl)
def m22 : Memo := ⟨[(S [109, 97, 105, 110]), i32, (.func 259 [] [])], [], T, [], 0⟩
theorem k22 : MemoOk Tryz.prog 258 m22 := piece (mm := 0) (l := []) memos_nil (by kernel_rfl)
def m23 : Memo := ⟨[(S [97, 46, 103, 111]), i64, (.func 261 [] [])], [], T, [], 0⟩
theorem k23 : MemoOk Tryz.prog 258 m23 := piece (mm := 0) (l := []) memos_nil (by kernel_rfl)
end Go.Proofs.YtdkeobkooiaacaaGreatDoor.Tab
