/-
  The facts of the turned program, told from the given one's: types, functions, calls.
-/
import Derived.Test.YtciekjplhbimdaaAltA
import Derived.ProofKit
set_option linter.all false
set_option maxRecDepth 100000
namespace Go.Proofs
open Go

section
variable {T : Tables} {F F' : Array Func}
theorem und_congr2 (t : TypeId) : Program.underlying ⟨T, F'⟩ t = Program.underlying ⟨T, F⟩ t := rfl
theorem eqGuardType_congr : ∀ (d : Nat) (t : TypeId), Program.eqGuardType ⟨T, F'⟩ d t = Program.eqGuardType ⟨T, F⟩ d t
  | 0, _ => rfl
  | d + 1, t => by
    have e : Program.underlying ⟨T, F'⟩ t = Program.underlying ⟨T, F⟩ t := rfl
    unfold Program.eqGuardType
    rw [e]
    simp only [eqGuardType_congr d]
theorem run_typeInfo_congr (t : TypeId) (w : World) : Sem.run ⟨T, F'⟩ (typeInfo t) w = Sem.run ⟨T, F⟩ (typeInfo t) w := by
  unfold typeInfo
  show Sem.run ⟨T, F'⟩ (Sem.program _) w = Sem.run ⟨T, F⟩ (Sem.program _) w
  simp only [Sem.run, Sem.bind]
  cases T.info? t <;> rfl
theorem run_underlying_congr (t : TypeId) (w : World) : Sem.run ⟨T, F'⟩ (underlying t) w = Sem.run ⟨T, F⟩ (underlying t) w := by
  unfold underlying
  show Sem.run ⟨T, F'⟩ (Sem.program _) w = Sem.run ⟨T, F⟩ (Sem.program _) w
  simp only [Sem.run, Sem.bind]
  have e : Program.underlying ⟨T, F'⟩ t = Program.underlying ⟨T, F⟩ t := rfl
  simp only [e]
  cases Program.underlying ⟨T, F⟩ t <;> rfl
theorem run_zeroValue_congr (t : TypeId) (w : World) : Sem.run ⟨T, F'⟩ (zeroValue t) w = Sem.run ⟨T, F⟩ (zeroValue t) w := by
  unfold zeroValue typeInfo
  show Sem.run ⟨T, F'⟩ (Sem.program _) w = Sem.run ⟨T, F⟩ (Sem.program _) w
  simp only [Sem.run, Sem.bind]
  cases T.info? t with
  | none => rfl
  | some i =>
    simp only [pure, Sem.bind]
    cases i.zero <;> rfl
theorem run_sizeOf_congr (t : TypeId) (w : World) : Sem.run ⟨T, F'⟩ (sizeOf t) w = Sem.run ⟨T, F⟩ (sizeOf t) w := by
  unfold sizeOf typeInfo
  show Sem.run ⟨T, F'⟩ (Sem.program _) w = Sem.run ⟨T, F⟩ (Sem.program _) w
  simp only [Sem.run, Sem.bind]
  cases T.info? t <;> rfl
theorem run_isAgg_congr (t : TypeId) (w : World) : Sem.run ⟨T, F'⟩ (isAgg t) w = Sem.run ⟨T, F⟩ (isAgg t) w := by
  unfold isAgg underlying
  show Sem.run ⟨T, F'⟩ (Sem.program _) w = Sem.run ⟨T, F⟩ (Sem.program _) w
  simp only [Sem.run, Sem.bind]
  have e : Program.underlying ⟨T, F'⟩ t = Program.underlying ⟨T, F⟩ t := rfl
  simp only [e]
  cases Program.underlying ⟨T, F⟩ t with
  | none => rfl
  | some d => cases d <;> rfl
end
theorem Alt.und (t : TypeId) : Alt.prog.underlying t = Try.prog.underlying t := und_congr2 (T := Try.progTables) (F := Try.funcs) (F' := Alt.funcs) t
@[simp] theorem Alt.run_typeInfo (t : TypeId) (w : World) : Sem.run Alt.prog (typeInfo t) w = Sem.run Try.prog (typeInfo t) w := run_typeInfo_congr (T := Try.progTables) (F := Try.funcs) (F' := Alt.funcs) t w
@[simp] theorem Alt.run_underlying (t : TypeId) (w : World) : Sem.run Alt.prog (underlying t) w = Sem.run Try.prog (underlying t) w := run_underlying_congr (T := Try.progTables) (F := Try.funcs) (F' := Alt.funcs) t w
@[simp] theorem Alt.run_zeroValue (t : TypeId) (w : World) : Sem.run Alt.prog (zeroValue t) w = Sem.run Try.prog (zeroValue t) w := run_zeroValue_congr (T := Try.progTables) (F := Try.funcs) (F' := Alt.funcs) t w
@[simp] theorem Alt.run_sizeOf (t : TypeId) (w : World) : Sem.run Alt.prog (sizeOf t) w = Sem.run Try.prog (sizeOf t) w := run_sizeOf_congr (T := Try.progTables) (F := Try.funcs) (F' := Alt.funcs) t w
@[simp] theorem Alt.run_isAgg (t : TypeId) (w : World) : Sem.run Alt.prog (isAgg t) w = Sem.run Try.prog (isAgg t) w := run_isAgg_congr (T := Try.progTables) (F := Try.funcs) (F' := Alt.funcs) t w
@[simp] theorem Alt.types_eq : Alt.prog.types = Try.prog.types := rfl
@[simp] theorem Alt.rt_eq : Alt.prog.rt = Try.prog.rt := rfl
@[simp] theorem Alt.inits_eq : Alt.prog.inits = Try.prog.inits := rfl
@[simp] theorem Alt.globals_eq : Alt.prog.globals = Try.prog.globals := rfl
@[simp] theorem Alt.und_eq (t : TypeId) : Alt.prog.underlying t = Try.prog.underlying t := Alt.und t
@[simp] theorem Alt.depth_eq : Alt.prog.depth = Try.prog.depth := rfl
@[simp] theorem Alt.eqGuardType_eq (t : TypeId) : Alt.prog.eqGuardType Try.prog.depth t = Try.prog.eqGuardType Try.prog.depth t := eqGuardType_congr (T := Try.progTables) (F := Try.funcs) (F' := Alt.funcs) _ t
@[simp] theorem Alt.stoodInHeldU : Alt.prog.stoodInHeld 39 = false := by kernel_rfl
@[simp] theorem Alt.stoodInHeldN : Alt.prog.stoodInHeld 36 = false := by kernel_rfl
@[simp] theorem Alt.stoodInHeldC : Alt.prog.stoodInHeld 25 = false := by kernel_rfl
theorem fieldsOf_congr {T : Tables} {F F' : Array Func} (t : TypeId) : Program.fieldsOf ⟨T, F'⟩ t = Program.fieldsOf ⟨T, F⟩ t := rfl
@[simp] theorem Alt.fieldsOf_eq (t : TypeId) : Alt.prog.fieldsOf t = Try.prog.fieldsOf t := fieldsOf_congr (T := Try.progTables) (F := Try.funcs) (F' := Alt.funcs) t
theorem Alt.run_call {f : FuncId} {a : Func} (h : Alt.prog.funcs[f]? = some a) (hn : (a.name == "runtime.NumGoroutine") = false) (hb : a.body.isNone = false) (args : Array Value) (w : World) : Sem.run Alt.prog (callFunc f args) w = .ok (.enter f args) w := by
  unfold callFunc
  show Sem.run Alt.prog (Sem.program _) w = _
  simp only [Sem.run, Sem.bind, h, hn, hb]
  rfl

@[simp] theorem Alt.func2 : Alt.prog.funcs[2]? = some Try.f2 := (Alt.same (by decide)).trans Try.func2
@[simp] theorem Alt.func3 : Alt.prog.funcs[3]? = some Try.f3 := (Alt.same (by decide)).trans Try.func3
@[simp] theorem Alt.func4 : Alt.prog.funcs[4]? = some Try.f4 := (Alt.same (by decide)).trans Try.func4
@[simp] theorem Alt.func5 : Alt.prog.funcs[5]? = some Try.f5 := (Alt.same (by decide)).trans Try.func5
@[simp] theorem Alt.func6 : Alt.prog.funcs[6]? = some Try.f6 := (Alt.same (by decide)).trans Try.func6
@[simp] theorem Alt.func7 : Alt.prog.funcs[7]? = some Try.f7 := (Alt.same (by decide)).trans Try.func7
@[simp] theorem Alt.func8 : Alt.prog.funcs[8]? = some Try.f8 := (Alt.same (by decide)).trans Try.func8
@[simp] theorem Alt.func9 : Alt.prog.funcs[9]? = some Try.f9 := (Alt.same (by decide)).trans Try.func9
@[simp] theorem Alt.func10 : Alt.prog.funcs[10]? = some Try.f10 := (Alt.same (by decide)).trans Try.func10
@[simp] theorem Alt.func11 : Alt.prog.funcs[11]? = some Try.f11 := (Alt.same (by decide)).trans Try.func11
@[simp] theorem Alt.func12 : Alt.prog.funcs[12]? = some Try.f12 := (Alt.same (by decide)).trans Try.func12
@[simp] theorem Alt.func13 : Alt.prog.funcs[13]? = some Try.f13 := (Alt.same (by decide)).trans Try.func13
@[simp] theorem Alt.func14 : Alt.prog.funcs[14]? = some Try.f14 := (Alt.same (by decide)).trans Try.func14
@[simp] theorem Alt.func15 : Alt.prog.funcs[15]? = some Try.f15 := (Alt.same (by decide)).trans Try.func15
@[simp] theorem Alt.func16 : Alt.prog.funcs[16]? = some Try.f16 := (Alt.same (by decide)).trans Try.func16
@[simp] theorem Alt.func17 : Alt.prog.funcs[17]? = some Try.f17 := (Alt.same (by decide)).trans Try.func17
@[simp] theorem Alt.func18 : Alt.prog.funcs[18]? = some Try.f18 := (Alt.same (by decide)).trans Try.func18
@[simp] theorem Alt.func19 : Alt.prog.funcs[19]? = some Try.f19 := (Alt.same (by decide)).trans Try.func19
@[simp] theorem Alt.func20 : Alt.prog.funcs[20]? = some Try.f20 := (Alt.same (by decide)).trans Try.func20
@[simp] theorem Alt.func21 : Alt.prog.funcs[21]? = some Try.f21 := (Alt.same (by decide)).trans Try.func21
@[simp] theorem Alt.func22 : Alt.prog.funcs[22]? = some Try.f22 := (Alt.same (by decide)).trans Try.func22
@[simp] theorem Alt.func23 : Alt.prog.funcs[23]? = some Try.f23 := (Alt.same (by decide)).trans Try.func23
@[simp] theorem Alt.func24 : Alt.prog.funcs[24]? = some Try.f24 := (Alt.same (by decide)).trans Try.func24
@[simp] theorem Alt.func25 : Alt.prog.funcs[25]? = some Try.f25 := (Alt.same (by decide)).trans Try.func25
@[simp] theorem Alt.func26 : Alt.prog.funcs[26]? = some Try.f26 := (Alt.same (by decide)).trans Try.func26
@[simp] theorem Alt.func27 : Alt.prog.funcs[27]? = some Try.f27 := (Alt.same (by decide)).trans Try.func27
@[simp] theorem Alt.func28 : Alt.prog.funcs[28]? = some Try.f28 := (Alt.same (by decide)).trans Try.func28
@[simp] theorem Alt.func29 : Alt.prog.funcs[29]? = some Try.f29 := (Alt.same (by decide)).trans Try.func29
@[simp] theorem Alt.func30 : Alt.prog.funcs[30]? = some Try.f30 := (Alt.same (by decide)).trans Try.func30
@[simp] theorem Alt.func31 : Alt.prog.funcs[31]? = some Try.f31 := (Alt.same (by decide)).trans Try.func31
@[simp] theorem Alt.func32 : Alt.prog.funcs[32]? = some Try.f32 := (Alt.same (by decide)).trans Try.func32
@[simp] theorem Alt.func33 : Alt.prog.funcs[33]? = some Try.f33 := (Alt.same (by decide)).trans Try.func33
@[simp] theorem Alt.func34 : Alt.prog.funcs[34]? = some Try.f34 := (Alt.same (by decide)).trans Try.func34
@[simp] theorem Alt.func35 : Alt.prog.funcs[35]? = some Try.f35 := (Alt.same (by decide)).trans Try.func35
@[simp] theorem Alt.func36 : Alt.prog.funcs[36]? = some Try.f36 := (Alt.same (by decide)).trans Try.func36
@[simp] theorem Alt.func38 : Alt.prog.funcs[38]? = some Try.f38 := (Alt.same (by decide)).trans Try.func38
@[simp] theorem Alt.func39 : Alt.prog.funcs[39]? = some Try.f39 := (Alt.same (by decide)).trans Try.func39
@[simp] theorem Alt.func40 : Alt.prog.funcs[40]? = some Try.f40 := (Alt.same (by decide)).trans Try.func40
@[simp] theorem Alt.func41 : Alt.prog.funcs[41]? = some Try.f41 := (Alt.same (by decide)).trans Try.func41
@[simp] theorem Alt.func42 : Alt.prog.funcs[42]? = some Try.f42 := (Alt.same (by decide)).trans Try.func42
@[simp] theorem Alt.func43 : Alt.prog.funcs[43]? = some Try.f43 := (Alt.same (by decide)).trans Try.func43
@[simp] theorem Alt.func44 : Alt.prog.funcs[44]? = some Try.f44 := (Alt.same (by decide)).trans Try.func44
@[simp] theorem Alt.func45 : Alt.prog.funcs[45]? = some Try.f45 := (Alt.same (by decide)).trans Try.func45
@[simp] theorem Alt.func46 : Alt.prog.funcs[46]? = some Try.f46 := (Alt.same (by decide)).trans Try.func46
@[simp] theorem Alt.func47 : Alt.prog.funcs[47]? = some Try.f47 := (Alt.same (by decide)).trans Try.func47
@[simp] theorem Alt.func48 : Alt.prog.funcs[48]? = some Try.f48 := (Alt.same (by decide)).trans Try.func48
@[simp] theorem Alt.func49 : Alt.prog.funcs[49]? = some Try.f49 := (Alt.same (by decide)).trans Try.func49
@[simp] theorem Alt.func50 : Alt.prog.funcs[50]? = some Try.f50 := (Alt.same (by decide)).trans Try.func50
@[simp] theorem Alt.func51 : Alt.prog.funcs[51]? = some Try.f51 := (Alt.same (by decide)).trans Try.func51
@[simp] theorem Alt.func52 : Alt.prog.funcs[52]? = some Try.f52 := (Alt.same (by decide)).trans Try.func52
@[simp] theorem Alt.func53 : Alt.prog.funcs[53]? = some Try.f53 := (Alt.same (by decide)).trans Try.func53
@[simp] theorem Alt.func54 : Alt.prog.funcs[54]? = some Try.f54 := (Alt.same (by decide)).trans Try.func54
@[simp] theorem Alt.func55 : Alt.prog.funcs[55]? = some Try.f55 := (Alt.same (by decide)).trans Try.func55
@[simp] theorem Alt.func56 : Alt.prog.funcs[56]? = some Try.f56 := (Alt.same (by decide)).trans Try.func56
@[simp] theorem Alt.func57 : Alt.prog.funcs[57]? = some Try.f57 := (Alt.same (by decide)).trans Try.func57
@[simp] theorem Alt.func58 : Alt.prog.funcs[58]? = some Try.f58 := (Alt.same (by decide)).trans Try.func58
@[simp] theorem Alt.func59 : Alt.prog.funcs[59]? = some Try.f59 := (Alt.same (by decide)).trans Try.func59
@[simp] theorem Alt.func60 : Alt.prog.funcs[60]? = some Try.f60 := (Alt.same (by decide)).trans Try.func60
@[simp] theorem Alt.func61 : Alt.prog.funcs[61]? = some Try.f61 := (Alt.same (by decide)).trans Try.func61
@[simp] theorem Alt.func62 : Alt.prog.funcs[62]? = some Try.f62 := (Alt.same (by decide)).trans Try.func62
@[simp] theorem Alt.func63 : Alt.prog.funcs[63]? = some Try.f63 := (Alt.same (by decide)).trans Try.func63
@[simp] theorem Alt.func65 : Alt.prog.funcs[65]? = some Try.f65 := (Alt.same (by decide)).trans Try.func65
@[simp] theorem Alt.func67 : Alt.prog.funcs[67]? = some Try.f67 := (Alt.same (by decide)).trans Try.func67
@[simp] theorem Alt.func69 : Alt.prog.funcs[69]? = some Try.f69 := (Alt.same (by decide)).trans Try.func69
@[simp] theorem Alt.func70 : Alt.prog.funcs[70]? = some Try.f70 := (Alt.same (by decide)).trans Try.func70
@[simp] theorem Alt.func71 : Alt.prog.funcs[71]? = some Try.f71 := (Alt.same (by decide)).trans Try.func71
@[simp] theorem Alt.func72 : Alt.prog.funcs[72]? = some Try.f72 := (Alt.same (by decide)).trans Try.func72
@[simp] theorem Alt.func73 : Alt.prog.funcs[73]? = some Try.f73 := (Alt.same (by decide)).trans Try.func73
@[simp] theorem Alt.func74 : Alt.prog.funcs[74]? = some Try.f74 := (Alt.same (by decide)).trans Try.func74
@[simp] theorem Alt.func75 : Alt.prog.funcs[75]? = some Try.f75 := (Alt.same (by decide)).trans Try.func75
@[simp] theorem Alt.func76 : Alt.prog.funcs[76]? = some Try.f76 := (Alt.same (by decide)).trans Try.func76
@[simp] theorem Alt.func77 : Alt.prog.funcs[77]? = some Try.f77 := (Alt.same (by decide)).trans Try.func77
@[simp] theorem Alt.func78 : Alt.prog.funcs[78]? = some Try.f78 := (Alt.same (by decide)).trans Try.func78
@[simp] theorem Alt.func79 : Alt.prog.funcs[79]? = some Try.f79 := (Alt.same (by decide)).trans Try.func79
@[simp] theorem Alt.func80 : Alt.prog.funcs[80]? = some Try.f80 := (Alt.same (by decide)).trans Try.func80
@[simp] theorem Alt.func81 : Alt.prog.funcs[81]? = some Try.f81 := (Alt.same (by decide)).trans Try.func81
@[simp] theorem Alt.func82 : Alt.prog.funcs[82]? = some Try.f82 := (Alt.same (by decide)).trans Try.func82
@[simp] theorem Alt.func101 : Alt.prog.funcs[101]? = some Try.f101 := (Alt.same (by decide)).trans Try.func101
@[simp] theorem Alt.func102 : Alt.prog.funcs[102]? = some Try.f102 := (Alt.same (by decide)).trans Try.func102
@[simp] theorem Alt.func103 : Alt.prog.funcs[103]? = some Try.f103 := (Alt.same (by decide)).trans Try.func103
@[simp] theorem Alt.func104 : Alt.prog.funcs[104]? = some Try.f104 := (Alt.same (by decide)).trans Try.func104
@[simp] theorem Alt.func105 : Alt.prog.funcs[105]? = some Try.f105 := (Alt.same (by decide)).trans Try.func105
@[simp] theorem Alt.func106 : Alt.prog.funcs[106]? = some Try.f106 := (Alt.same (by decide)).trans Try.func106
@[simp] theorem Alt.func107 : Alt.prog.funcs[107]? = some Try.f107 := (Alt.same (by decide)).trans Try.func107
@[simp] theorem Alt.func113 : Alt.prog.funcs[113]? = some Try.f113 := (Alt.same (by decide)).trans Try.func113
@[simp] theorem Alt.func114 : Alt.prog.funcs[114]? = some Try.f114 := (Alt.same (by decide)).trans Try.func114
@[simp] theorem Alt.call2 (args : Array Value) (w : World) : Sem.run Alt.prog (callFunc 2 args) w = .ok (.enter 2 args) w := Alt.run_call Alt.func2 (by kernel_rfl) (by kernel_rfl) args w
@[simp] theorem Alt.call3 (args : Array Value) (w : World) : Sem.run Alt.prog (callFunc 3 args) w = .ok (.enter 3 args) w := Alt.run_call Alt.func3 (by kernel_rfl) (by kernel_rfl) args w
@[simp] theorem Alt.call4 (args : Array Value) (w : World) : Sem.run Alt.prog (callFunc 4 args) w = .ok (.enter 4 args) w := Alt.run_call Alt.func4 (by kernel_rfl) (by kernel_rfl) args w
@[simp] theorem Alt.call5 (args : Array Value) (w : World) : Sem.run Alt.prog (callFunc 5 args) w = .ok (.enter 5 args) w := Alt.run_call Alt.func5 (by kernel_rfl) (by kernel_rfl) args w
@[simp] theorem Alt.call6 (args : Array Value) (w : World) : Sem.run Alt.prog (callFunc 6 args) w = .ok (.enter 6 args) w := Alt.run_call Alt.func6 (by kernel_rfl) (by kernel_rfl) args w
@[simp] theorem Alt.call7 (args : Array Value) (w : World) : Sem.run Alt.prog (callFunc 7 args) w = .ok (.enter 7 args) w := Alt.run_call Alt.func7 (by kernel_rfl) (by kernel_rfl) args w
@[simp] theorem Alt.call8 (args : Array Value) (w : World) : Sem.run Alt.prog (callFunc 8 args) w = .ok (.enter 8 args) w := Alt.run_call Alt.func8 (by kernel_rfl) (by kernel_rfl) args w
@[simp] theorem Alt.call9 (args : Array Value) (w : World) : Sem.run Alt.prog (callFunc 9 args) w = .ok (.enter 9 args) w := Alt.run_call Alt.func9 (by kernel_rfl) (by kernel_rfl) args w
@[simp] theorem Alt.call10 (args : Array Value) (w : World) : Sem.run Alt.prog (callFunc 10 args) w = .ok (.enter 10 args) w := Alt.run_call Alt.func10 (by kernel_rfl) (by kernel_rfl) args w
@[simp] theorem Alt.call11 (args : Array Value) (w : World) : Sem.run Alt.prog (callFunc 11 args) w = .ok (.enter 11 args) w := Alt.run_call Alt.func11 (by kernel_rfl) (by kernel_rfl) args w
@[simp] theorem Alt.call12 (args : Array Value) (w : World) : Sem.run Alt.prog (callFunc 12 args) w = .ok (.enter 12 args) w := Alt.run_call Alt.func12 (by kernel_rfl) (by kernel_rfl) args w
@[simp] theorem Alt.call13 (args : Array Value) (w : World) : Sem.run Alt.prog (callFunc 13 args) w = .ok (.enter 13 args) w := Alt.run_call Alt.func13 (by kernel_rfl) (by kernel_rfl) args w
@[simp] theorem Alt.call14 (args : Array Value) (w : World) : Sem.run Alt.prog (callFunc 14 args) w = .ok (.enter 14 args) w := Alt.run_call Alt.func14 (by kernel_rfl) (by kernel_rfl) args w
@[simp] theorem Alt.call15 (args : Array Value) (w : World) : Sem.run Alt.prog (callFunc 15 args) w = .ok (.enter 15 args) w := Alt.run_call Alt.func15 (by kernel_rfl) (by kernel_rfl) args w
@[simp] theorem Alt.call16 (args : Array Value) (w : World) : Sem.run Alt.prog (callFunc 16 args) w = .ok (.enter 16 args) w := Alt.run_call Alt.func16 (by kernel_rfl) (by kernel_rfl) args w
@[simp] theorem Alt.call17 (args : Array Value) (w : World) : Sem.run Alt.prog (callFunc 17 args) w = .ok (.enter 17 args) w := Alt.run_call Alt.func17 (by kernel_rfl) (by kernel_rfl) args w
@[simp] theorem Alt.call18 (args : Array Value) (w : World) : Sem.run Alt.prog (callFunc 18 args) w = .ok (.enter 18 args) w := Alt.run_call Alt.func18 (by kernel_rfl) (by kernel_rfl) args w
@[simp] theorem Alt.call19 (args : Array Value) (w : World) : Sem.run Alt.prog (callFunc 19 args) w = .ok (.enter 19 args) w := Alt.run_call Alt.func19 (by kernel_rfl) (by kernel_rfl) args w
@[simp] theorem Alt.call20 (args : Array Value) (w : World) : Sem.run Alt.prog (callFunc 20 args) w = .ok (.enter 20 args) w := Alt.run_call Alt.func20 (by kernel_rfl) (by kernel_rfl) args w
@[simp] theorem Alt.call21 (args : Array Value) (w : World) : Sem.run Alt.prog (callFunc 21 args) w = .ok (.enter 21 args) w := Alt.run_call Alt.func21 (by kernel_rfl) (by kernel_rfl) args w
@[simp] theorem Alt.call22 (args : Array Value) (w : World) : Sem.run Alt.prog (callFunc 22 args) w = .ok (.enter 22 args) w := Alt.run_call Alt.func22 (by kernel_rfl) (by kernel_rfl) args w
@[simp] theorem Alt.call23 (args : Array Value) (w : World) : Sem.run Alt.prog (callFunc 23 args) w = .ok (.enter 23 args) w := Alt.run_call Alt.func23 (by kernel_rfl) (by kernel_rfl) args w
@[simp] theorem Alt.call24 (args : Array Value) (w : World) : Sem.run Alt.prog (callFunc 24 args) w = .ok (.enter 24 args) w := Alt.run_call Alt.func24 (by kernel_rfl) (by kernel_rfl) args w
@[simp] theorem Alt.call25 (args : Array Value) (w : World) : Sem.run Alt.prog (callFunc 25 args) w = .ok (.enter 25 args) w := Alt.run_call Alt.func25 (by kernel_rfl) (by kernel_rfl) args w
@[simp] theorem Alt.call26 (args : Array Value) (w : World) : Sem.run Alt.prog (callFunc 26 args) w = .ok (.enter 26 args) w := Alt.run_call Alt.func26 (by kernel_rfl) (by kernel_rfl) args w
@[simp] theorem Alt.call27 (args : Array Value) (w : World) : Sem.run Alt.prog (callFunc 27 args) w = .ok (.enter 27 args) w := Alt.run_call Alt.func27 (by kernel_rfl) (by kernel_rfl) args w
@[simp] theorem Alt.call28 (args : Array Value) (w : World) : Sem.run Alt.prog (callFunc 28 args) w = .ok (.enter 28 args) w := Alt.run_call Alt.func28 (by kernel_rfl) (by kernel_rfl) args w
@[simp] theorem Alt.call29 (args : Array Value) (w : World) : Sem.run Alt.prog (callFunc 29 args) w = .ok (.enter 29 args) w := Alt.run_call Alt.func29 (by kernel_rfl) (by kernel_rfl) args w
@[simp] theorem Alt.call30 (args : Array Value) (w : World) : Sem.run Alt.prog (callFunc 30 args) w = .ok (.enter 30 args) w := Alt.run_call Alt.func30 (by kernel_rfl) (by kernel_rfl) args w
@[simp] theorem Alt.call31 (args : Array Value) (w : World) : Sem.run Alt.prog (callFunc 31 args) w = .ok (.enter 31 args) w := Alt.run_call Alt.func31 (by kernel_rfl) (by kernel_rfl) args w
@[simp] theorem Alt.call32 (args : Array Value) (w : World) : Sem.run Alt.prog (callFunc 32 args) w = .ok (.enter 32 args) w := Alt.run_call Alt.func32 (by kernel_rfl) (by kernel_rfl) args w
@[simp] theorem Alt.call33 (args : Array Value) (w : World) : Sem.run Alt.prog (callFunc 33 args) w = .ok (.enter 33 args) w := Alt.run_call Alt.func33 (by kernel_rfl) (by kernel_rfl) args w
@[simp] theorem Alt.call34 (args : Array Value) (w : World) : Sem.run Alt.prog (callFunc 34 args) w = .ok (.enter 34 args) w := Alt.run_call Alt.func34 (by kernel_rfl) (by kernel_rfl) args w
@[simp] theorem Alt.call35 (args : Array Value) (w : World) : Sem.run Alt.prog (callFunc 35 args) w = .ok (.enter 35 args) w := Alt.run_call Alt.func35 (by kernel_rfl) (by kernel_rfl) args w
@[simp] theorem Alt.call36 (args : Array Value) (w : World) : Sem.run Alt.prog (callFunc 36 args) w = .ok (.enter 36 args) w := Alt.run_call Alt.func36 (by kernel_rfl) (by kernel_rfl) args w
@[simp] theorem Alt.call37 (args : Array Value) (w : World) : Sem.run Alt.prog (callFunc 37 args) w = .ok (.enter 37 args) w := Alt.run_call Alt.func37 (by kernel_rfl) (by kernel_rfl) args w
@[simp] theorem Alt.call38 (args : Array Value) (w : World) : Sem.run Alt.prog (callFunc 38 args) w = .ok (.enter 38 args) w := Alt.run_call Alt.func38 (by kernel_rfl) (by kernel_rfl) args w
@[simp] theorem Alt.call39 (args : Array Value) (w : World) : Sem.run Alt.prog (callFunc 39 args) w = .ok (.enter 39 args) w := Alt.run_call Alt.func39 (by kernel_rfl) (by kernel_rfl) args w
@[simp] theorem Alt.call40 (args : Array Value) (w : World) : Sem.run Alt.prog (callFunc 40 args) w = .ok (.enter 40 args) w := Alt.run_call Alt.func40 (by kernel_rfl) (by kernel_rfl) args w
@[simp] theorem Alt.call41 (args : Array Value) (w : World) : Sem.run Alt.prog (callFunc 41 args) w = .ok (.enter 41 args) w := Alt.run_call Alt.func41 (by kernel_rfl) (by kernel_rfl) args w
@[simp] theorem Alt.call42 (args : Array Value) (w : World) : Sem.run Alt.prog (callFunc 42 args) w = .ok (.enter 42 args) w := Alt.run_call Alt.func42 (by kernel_rfl) (by kernel_rfl) args w
@[simp] theorem Alt.call43 (args : Array Value) (w : World) : Sem.run Alt.prog (callFunc 43 args) w = .ok (.enter 43 args) w := Alt.run_call Alt.func43 (by kernel_rfl) (by kernel_rfl) args w
@[simp] theorem Alt.call44 (args : Array Value) (w : World) : Sem.run Alt.prog (callFunc 44 args) w = .ok (.enter 44 args) w := Alt.run_call Alt.func44 (by kernel_rfl) (by kernel_rfl) args w
@[simp] theorem Alt.call45 (args : Array Value) (w : World) : Sem.run Alt.prog (callFunc 45 args) w = .ok (.enter 45 args) w := Alt.run_call Alt.func45 (by kernel_rfl) (by kernel_rfl) args w
@[simp] theorem Alt.call46 (args : Array Value) (w : World) : Sem.run Alt.prog (callFunc 46 args) w = .ok (.enter 46 args) w := Alt.run_call Alt.func46 (by kernel_rfl) (by kernel_rfl) args w
@[simp] theorem Alt.call47 (args : Array Value) (w : World) : Sem.run Alt.prog (callFunc 47 args) w = .ok (.enter 47 args) w := Alt.run_call Alt.func47 (by kernel_rfl) (by kernel_rfl) args w
@[simp] theorem Alt.call48 (args : Array Value) (w : World) : Sem.run Alt.prog (callFunc 48 args) w = .ok (.enter 48 args) w := Alt.run_call Alt.func48 (by kernel_rfl) (by kernel_rfl) args w
@[simp] theorem Alt.call49 (args : Array Value) (w : World) : Sem.run Alt.prog (callFunc 49 args) w = .ok (.enter 49 args) w := Alt.run_call Alt.func49 (by kernel_rfl) (by kernel_rfl) args w
@[simp] theorem Alt.call50 (args : Array Value) (w : World) : Sem.run Alt.prog (callFunc 50 args) w = .ok (.enter 50 args) w := Alt.run_call Alt.func50 (by kernel_rfl) (by kernel_rfl) args w
@[simp] theorem Alt.call51 (args : Array Value) (w : World) : Sem.run Alt.prog (callFunc 51 args) w = .ok (.enter 51 args) w := Alt.run_call Alt.func51 (by kernel_rfl) (by kernel_rfl) args w
@[simp] theorem Alt.call52 (args : Array Value) (w : World) : Sem.run Alt.prog (callFunc 52 args) w = .ok (.enter 52 args) w := Alt.run_call Alt.func52 (by kernel_rfl) (by kernel_rfl) args w
@[simp] theorem Alt.call53 (args : Array Value) (w : World) : Sem.run Alt.prog (callFunc 53 args) w = .ok (.enter 53 args) w := Alt.run_call Alt.func53 (by kernel_rfl) (by kernel_rfl) args w
@[simp] theorem Alt.call54 (args : Array Value) (w : World) : Sem.run Alt.prog (callFunc 54 args) w = .ok (.enter 54 args) w := Alt.run_call Alt.func54 (by kernel_rfl) (by kernel_rfl) args w
@[simp] theorem Alt.call55 (args : Array Value) (w : World) : Sem.run Alt.prog (callFunc 55 args) w = .ok (.enter 55 args) w := Alt.run_call Alt.func55 (by kernel_rfl) (by kernel_rfl) args w
@[simp] theorem Alt.call56 (args : Array Value) (w : World) : Sem.run Alt.prog (callFunc 56 args) w = .ok (.enter 56 args) w := Alt.run_call Alt.func56 (by kernel_rfl) (by kernel_rfl) args w
@[simp] theorem Alt.call57 (args : Array Value) (w : World) : Sem.run Alt.prog (callFunc 57 args) w = .ok (.enter 57 args) w := Alt.run_call Alt.func57 (by kernel_rfl) (by kernel_rfl) args w
@[simp] theorem Alt.call58 (args : Array Value) (w : World) : Sem.run Alt.prog (callFunc 58 args) w = .ok (.enter 58 args) w := Alt.run_call Alt.func58 (by kernel_rfl) (by kernel_rfl) args w
@[simp] theorem Alt.call59 (args : Array Value) (w : World) : Sem.run Alt.prog (callFunc 59 args) w = .ok (.enter 59 args) w := Alt.run_call Alt.func59 (by kernel_rfl) (by kernel_rfl) args w
@[simp] theorem Alt.call60 (args : Array Value) (w : World) : Sem.run Alt.prog (callFunc 60 args) w = .ok (.enter 60 args) w := Alt.run_call Alt.func60 (by kernel_rfl) (by kernel_rfl) args w
@[simp] theorem Alt.call61 (args : Array Value) (w : World) : Sem.run Alt.prog (callFunc 61 args) w = .ok (.enter 61 args) w := Alt.run_call Alt.func61 (by kernel_rfl) (by kernel_rfl) args w
@[simp] theorem Alt.call62 (args : Array Value) (w : World) : Sem.run Alt.prog (callFunc 62 args) w = .ok (.enter 62 args) w := Alt.run_call Alt.func62 (by kernel_rfl) (by kernel_rfl) args w
@[simp] theorem Alt.call63 (args : Array Value) (w : World) : Sem.run Alt.prog (callFunc 63 args) w = .ok (.enter 63 args) w := Alt.run_call Alt.func63 (by kernel_rfl) (by kernel_rfl) args w
@[simp] theorem Alt.call65 (args : Array Value) (w : World) : Sem.run Alt.prog (callFunc 65 args) w = .ok (.enter 65 args) w := Alt.run_call Alt.func65 (by kernel_rfl) (by kernel_rfl) args w
@[simp] theorem Alt.call67 (args : Array Value) (w : World) : Sem.run Alt.prog (callFunc 67 args) w = .ok (.enter 67 args) w := Alt.run_call Alt.func67 (by kernel_rfl) (by kernel_rfl) args w
@[simp] theorem Alt.call69 (args : Array Value) (w : World) : Sem.run Alt.prog (callFunc 69 args) w = .ok (.enter 69 args) w := Alt.run_call Alt.func69 (by kernel_rfl) (by kernel_rfl) args w
@[simp] theorem Alt.call70 (args : Array Value) (w : World) : Sem.run Alt.prog (callFunc 70 args) w = .ok (.enter 70 args) w := Alt.run_call Alt.func70 (by kernel_rfl) (by kernel_rfl) args w
@[simp] theorem Alt.call71 (args : Array Value) (w : World) : Sem.run Alt.prog (callFunc 71 args) w = .ok (.enter 71 args) w := Alt.run_call Alt.func71 (by kernel_rfl) (by kernel_rfl) args w
@[simp] theorem Alt.call72 (args : Array Value) (w : World) : Sem.run Alt.prog (callFunc 72 args) w = .ok (.enter 72 args) w := Alt.run_call Alt.func72 (by kernel_rfl) (by kernel_rfl) args w
@[simp] theorem Alt.call73 (args : Array Value) (w : World) : Sem.run Alt.prog (callFunc 73 args) w = .ok (.enter 73 args) w := Alt.run_call Alt.func73 (by kernel_rfl) (by kernel_rfl) args w
@[simp] theorem Alt.call74 (args : Array Value) (w : World) : Sem.run Alt.prog (callFunc 74 args) w = .ok (.enter 74 args) w := Alt.run_call Alt.func74 (by kernel_rfl) (by kernel_rfl) args w
@[simp] theorem Alt.call75 (args : Array Value) (w : World) : Sem.run Alt.prog (callFunc 75 args) w = .ok (.enter 75 args) w := Alt.run_call Alt.func75 (by kernel_rfl) (by kernel_rfl) args w
@[simp] theorem Alt.call76 (args : Array Value) (w : World) : Sem.run Alt.prog (callFunc 76 args) w = .ok (.enter 76 args) w := Alt.run_call Alt.func76 (by kernel_rfl) (by kernel_rfl) args w
@[simp] theorem Alt.call77 (args : Array Value) (w : World) : Sem.run Alt.prog (callFunc 77 args) w = .ok (.enter 77 args) w := Alt.run_call Alt.func77 (by kernel_rfl) (by kernel_rfl) args w
@[simp] theorem Alt.call78 (args : Array Value) (w : World) : Sem.run Alt.prog (callFunc 78 args) w = .ok (.enter 78 args) w := Alt.run_call Alt.func78 (by kernel_rfl) (by kernel_rfl) args w
@[simp] theorem Alt.call79 (args : Array Value) (w : World) : Sem.run Alt.prog (callFunc 79 args) w = .ok (.enter 79 args) w := Alt.run_call Alt.func79 (by kernel_rfl) (by kernel_rfl) args w
@[simp] theorem Alt.call80 (args : Array Value) (w : World) : Sem.run Alt.prog (callFunc 80 args) w = .ok (.enter 80 args) w := Alt.run_call Alt.func80 (by kernel_rfl) (by kernel_rfl) args w
@[simp] theorem Alt.call81 (args : Array Value) (w : World) : Sem.run Alt.prog (callFunc 81 args) w = .ok (.enter 81 args) w := Alt.run_call Alt.func81 (by kernel_rfl) (by kernel_rfl) args w
@[simp] theorem Alt.call82 (args : Array Value) (w : World) : Sem.run Alt.prog (callFunc 82 args) w = .ok (.enter 82 args) w := Alt.run_call Alt.func82 (by kernel_rfl) (by kernel_rfl) args w
@[simp] theorem Alt.call101 (args : Array Value) (w : World) : Sem.run Alt.prog (callFunc 101 args) w = .ok (.enter 101 args) w := Alt.run_call Alt.func101 (by kernel_rfl) (by kernel_rfl) args w
@[simp] theorem Alt.call102 (args : Array Value) (w : World) : Sem.run Alt.prog (callFunc 102 args) w = .ok (.enter 102 args) w := Alt.run_call Alt.func102 (by kernel_rfl) (by kernel_rfl) args w
@[simp] theorem Alt.call103 (args : Array Value) (w : World) : Sem.run Alt.prog (callFunc 103 args) w = .ok (.enter 103 args) w := Alt.run_call Alt.func103 (by kernel_rfl) (by kernel_rfl) args w
@[simp] theorem Alt.call104 (args : Array Value) (w : World) : Sem.run Alt.prog (callFunc 104 args) w = .ok (.enter 104 args) w := Alt.run_call Alt.func104 (by kernel_rfl) (by kernel_rfl) args w
@[simp] theorem Alt.call105 (args : Array Value) (w : World) : Sem.run Alt.prog (callFunc 105 args) w = .ok (.enter 105 args) w := Alt.run_call Alt.func105 (by kernel_rfl) (by kernel_rfl) args w
@[simp] theorem Alt.call106 (args : Array Value) (w : World) : Sem.run Alt.prog (callFunc 106 args) w = .ok (.enter 106 args) w := Alt.run_call Alt.func106 (by kernel_rfl) (by kernel_rfl) args w
@[simp] theorem Alt.call107 (args : Array Value) (w : World) : Sem.run Alt.prog (callFunc 107 args) w = .ok (.enter 107 args) w := Alt.run_call Alt.func107 (by kernel_rfl) (by kernel_rfl) args w
@[simp] theorem Alt.call113 (args : Array Value) (w : World) : Sem.run Alt.prog (callFunc 113 args) w = .ok (.enter 113 args) w := Alt.run_call Alt.func113 (by kernel_rfl) (by kernel_rfl) args w
@[simp] theorem Alt.call114 (args : Array Value) (w : World) : Sem.run Alt.prog (callFunc 114 args) w = .ok (.enter 114 args) w := Alt.run_call Alt.func114 (by kernel_rfl) (by kernel_rfl) args w
def Alt.underlying52 := (Alt.und 52).trans Try.underlying52
def Alt.underlying34 := (Alt.und 34).trans Try.underlying34
def Alt.underlying23 := (Alt.und 23).trans Try.underlying23
end Go.Proofs
