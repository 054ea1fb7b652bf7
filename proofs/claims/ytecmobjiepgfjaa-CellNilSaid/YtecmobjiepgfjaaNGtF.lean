/- Which functions of this program are mild. -/
import Derived.Test.YtecmobjiepgfjaaNGtA
namespace Go.Proofs.Ytecmobjiepgfjaa
open Go.Conc Go.RowKit
set_option linter.unusedSimpArgs false
set_option linter.unusedVariables false
set_option maxRecDepth 100000
/-- The body-less functions of sync/atomic that occur. -/
noncomputable def exts : List (FuncId) := [139, 129, 146, 149]
/-- Functions all of whose operations are mild. -/
noncomputable def milds : List (FuncId) := [131, 153, 100, 102, 80, 124, 126, 99]
noncomputable def FG : Fns := { fn := fun f => milds.contains f, maps := false, top := fun f => decide (f < Try.prog.funcs.size), ext := fun f => exts.contains f }
theorem early_ok : Try.prog.follows .staticDataAhead = true ∧ ∀ g, Try.prog.stepOf g = none := ⟨by kernel_rfl, stepOf_none (by kernel_rfl)⟩
theorem ext_LoadInt64 : ExtAt Try.prog 139 := ⟨Try.f139, Extern.Atomic.loadT (.int .i64), Try.func139, by rfl, by rfl, by kernel_rfl, by kernel_rfl, fun P S args => sq160⟩
theorem ext_StoreInt64 : ExtAt Try.prog 129 := ⟨Try.f129, Extern.Atomic.storeT, Try.func129, by rfl, by rfl, by kernel_rfl, by kernel_rfl, fun P S args => sq159⟩
theorem ext_AddInt64 : ExtAt Try.prog 146 := ⟨Try.f146, Extern.Atomic.update (Op.intArith .add) .i64 true, Try.func146, by rfl, by rfl, by kernel_rfl, by kernel_rfl, fun P S args => sq158⟩
theorem ext_CompareAndSwapInt64 : ExtAt Try.prog 149 := ⟨Try.f149, Extern.Atomic.casT (.int .i64), Try.func149, by rfl, by rfl, by kernel_rfl, by kernel_rfl, fun P S args => sq150⟩
theorem exts_ok (f : FuncId) (h : exts.contains f = true) : ExtAt Try.prog f := by
  have h := List.contains_iff_mem.1 h
  simp only [exts, List.mem_cons, List.not_mem_nil, or_false] at h
  rcases h with rfl | rfl | rfl | rfl
  · exact ext_LoadInt64
  · exact ext_StoreInt64
  · exact ext_AddInt64
  · exact ext_CompareAndSwapInt64
def TextAt (F : Fns) (f : FuncId) : Prop := ∃ fn c, Try.prog.funcs[f]? = some fn ∧ (fn.name == "runtime.NumGoroutine") = false ∧ fn.body = some c ∧ okCode F c = true
theorem texts_ok (f : FuncId) (h : milds.contains f = true) : TextAt FG f := by
  have h := List.contains_iff_mem.1 h
  simp only [milds, List.mem_cons, List.not_mem_nil, or_false] at h
  rcases h with rfl | rfl | rfl | rfl | rfl | rfl | rfl | rfl
  · exact ⟨Try.f131, Try.f131.body.getD .skip, Try.func131, by rfl, by rfl, by kernel_rfl⟩
  · exact ⟨Try.f153, Try.f153.body.getD .skip, Try.func153, by rfl, by rfl, by kernel_rfl⟩
  · exact ⟨Try.f100, Try.f100.body.getD .skip, Try.func100, by rfl, by rfl, by kernel_rfl⟩
  · exact ⟨Try.f102, Try.f102.body.getD .skip, Try.func102, by rfl, by rfl, by kernel_rfl⟩
  · exact ⟨Try.f80, Try.f80.body.getD .skip, Try.func80, by rfl, by rfl, by kernel_rfl⟩
  · exact ⟨Try.f124, Try.f124.body.getD .skip, Try.func124, by rfl, by rfl, by kernel_rfl⟩
  · exact ⟨Try.f126, Try.f126.body.getD .skip, Try.func126, by rfl, by rfl, by kernel_rfl⟩
  · exact ⟨Try.f99, Try.f99.body.getD .skip, Try.func99, by rfl, by rfl, by kernel_rfl⟩
theorem closedG (S : Prot) : Closed Try.prog S FG where
  maps := fun h => by cases h
  text := texts_ok
  exts := exts_ok
  tops := fun f h => by
    have h : f < Try.prog.funcs.size := by simpa [FG] using h
    exact ⟨_, Array.getElem?_eq_getElem h⟩
  early := early_ok
end Go.Proofs.Ytecmobjiepgfjaa
