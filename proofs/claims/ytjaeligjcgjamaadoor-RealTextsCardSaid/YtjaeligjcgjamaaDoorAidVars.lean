/- What the listed variables give a walk: the two tables and the two errors. -/
import Derived.Test.YtjaeligjcgjamaaDoorAidLaid
import Derived.Test.YtjaeligjcgjamaaDoorDTextW
import Derived.Stop.LaidErr
namespace Go.Proofs.YtjaeligjcgjamaaDoor.AidVars
open Go.ChangeShapes Go.WideShapes Go.RowKit Go.Proofs.YtjaeligjcgjamaaDoor.DTextW
abbrev laid : List (String × DataW Unit) := AidLaid.laid
def zp : List Int := [1, 10, 100, 1000, 10000, 100000, 1000000, 10000000, 100000000, 1000000000, 10000000000, 100000000000, 1000000000000, 10000000000000, 100000000000000, 1000000000000000, 10000000000000000, 100000000000000000, 1000000000000000000, 10000000000000000000]
theorem zp_eq : zp = Lib.pow10Tab := by decide
theorem star : "*" ++ "errors.errorString" = "*errors.errorString" := by decide
theorem row127 (u : TypeId) (h : Tryd.prog.typeName? 3 u = some "*errors.errorString") : u = 127 :=
  typeName_ptr_named (nm := "errors.errorString") (by rw [star]; kernel_rfl) (by kernel_rfl) (by decide) u (by rw [star]; exact h)
theorem vars {W : World} (h : laidMetH Tryd.prog laid W) : Vars W := by
  have hz := AidLaid.cell15 h
  rw [MakeChecks.laidMetH_plain _ _ _ (by kernel_rfl)] at h
  have h2 : laidMet Tryd.prog (("internal/strconv.uint64pow10", Lib.tabData .u64 zp) :: _) W := laidMet.tail (laidMet.tail h)
  have hT := Lib.tabIs_of_head (g := 1) (t := 111) (e := 22) (n := 20) (by kernel_rfl) (by kernel_rfl) (by kernel_rfl) (by kernel_rfl) (by kernel_rfl) (by kernel_rfl) h2
  rw [zp_eq] at hT
  have h4 : laidMet Tryd.prog (("strconv.ErrRange", Rows.laid_strconv_ErrRange) :: _) W := laidMet.tail (laidMet.tail h2)
  have h5 : laidMet Tryd.prog (("strconv.ErrSyntax", Rows.laid_strconv_ErrSyntax) :: _) W := laidMet.tail h4
  obtain ⟨a, sa, hva, _⟩ := laid_sentinel (g := 4) (ti := 60) (tp := 127) (te := 129) (ts := 9) h4 (by kernel_rfl) (by kernel_rfl) Tryd.underlying60 row127 Tryd.underlying127 Tryd.underlying129 rfl rfl Tryd.underlying9 (by kernel_rfl) (by kernel_rfl)
  obtain ⟨b, sb, hvb, _⟩ := laid_sentinel (g := 3) (ti := 60) (tp := 127) (te := 129) (ts := 9) h5 (by kernel_rfl) (by kernel_rfl) Tryd.underlying60 row127 Tryd.underlying127 Tryd.underlying129 rfl rfl Tryd.underlying9 (by kernel_rfl) (by kernel_rfl)
  exact ⟨hz, hT, ⟨_, _, World.var?_cell (by kernel_rfl) hvb 0⟩, ⟨_, _, World.var?_cell (by kernel_rfl) hva 0⟩⟩
end Go.Proofs.YtjaeligjcgjamaaDoor.AidVars
