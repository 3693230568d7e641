-- Written by this session's texts and program for this claim. Lean checks it.
import Derived.Test.YtgojidjfidldbaaProg
import Derived.KernelRfl
import Derived.Test.YtgojidjfidldbaaVFnExactRaiseSurface3
set_option autoImplicit true
set_option relaxedAutoImplicit true
namespace Go.Proofs.Ytgojidjfidldbaa.EngS
open Go Go.Proofs Go.Eng
def T : Nat → Option TI
  | 2 => some ⟨.int .i64, 1, false, [.sc (.int .i64 0)], []⟩
  | 3 => some ⟨.int .i64, 1, false, [.sc (.int .i64 0)], []⟩
  | 4 => some ⟨.bool, 1, false, [.sc (.bool false)], []⟩
  | 5 => some ⟨.int .u8, 1, false, [.sc (.int .u8 0)], []⟩
  | 6 => some ⟨.int .u8, 1, false, [.sc (.int .u8 0)], []⟩
  | 8 => some ⟨.st [(0, 1, false), (1, 1, false), (2, 1, false), (3, 1, false)], 4, true, [.sc (.int .i64 0), .sc (.int .i64 0), .sc (.bool false), .sc (.int .u8 0)], []⟩
  | 9 => some ⟨.str, 1, false, [.sc (.string ⟨#[]⟩)], []⟩
  | 10 => some ⟨.str, 1, false, [.sc (.string ⟨#[]⟩)], []⟩
  | 11 => some ⟨.str, 1, false, [.sc (.string ⟨#[]⟩)], []⟩
  | 12 => some ⟨.int .u64, 1, false, [.sc (.int .u64 0)], []⟩
  | 14 => some ⟨.st [(0, 1, false), (1, 1, false)], 2, true, [.sc (.string ⟨#[]⟩), .sc (.int .u64 0)], []⟩
  | 15 => some ⟨.oth, 1, false, [.sc (.pointer none)], []⟩
  | 16 => some ⟨.oth, 1, false, [.sc (.pointer none)], []⟩
  | 17 => some ⟨.oth, 1, false, [.sc (.pointer none)], []⟩
  | 19 => some ⟨.st [(0, 1, false)], 1, true, [.sc (.pointer none)], []⟩
  | 20 => some ⟨.oth, 1, false, [.sc .nilIface], []⟩
  | 22 => some ⟨.sl 3 1 8, 1, false, [.sl false 1 []], []⟩
  | 24 => some ⟨.st [(0, 1, false), (1, 1, false), (2, 1, false)], 3, true, [.sc (.int .i64 0), .sc (.int .i64 0), .sl false 1 []], []⟩
  | 27 => some ⟨.st [(0, 1, false), (1, 1, false), (2, 1, false)], 3, true, [.sc (.int .i64 0), .sc (.int .i64 0), .sl false 1 []], []⟩
  | 32 => some ⟨.st [(0, 1, false), (1, 1, false), (2, 1, false), (3, 1, false), (4, 1, false)], 5, true, [.sc (.int .i64 0), .sc (.int .i64 0), .sl false 1 [], .sc (.string ⟨#[]⟩), .sc (.string ⟨#[]⟩)], []⟩
  | 35 => some ⟨.st [(0, 1, false), (1, 1, false), (2, 1, false), (3, 1, false), (4, 1, false)], 5, true, [.sc (.int .i64 0), .sc (.int .i64 0), .sl false 1 [], .sc (.string ⟨#[]⟩), .sc (.string ⟨#[]⟩)], []⟩
  | 49 => some ⟨.st [(0, 1, false), (1, 1, false)], 2, true, [.sc (.int .i64 0), .sc (.int .i64 0)], []⟩
  | 60 => some ⟨.sl 5 1 1, 1, false, [.sl false 1 []], []⟩
  | 69 => some ⟨.oth, 1, false, [.sc .nilFunc], []⟩
  | 80 => some ⟨.oth, 1, false, [.sc .nilFunc], []⟩
  | 81 => some ⟨.oth, 1, false, [.sc (.pointer none)], []⟩
  | 82 => some ⟨.int .u64, 1, false, [.sc (.int .u64 0)], []⟩
  | 84 => some ⟨.st [(0, 1, false), (1, 1, false), (2, 1, false)], 3, true, [.sl false 1 [], .sc (.int .i64 0), .sc (.int .u64 0)], []⟩
  | 89 => some ⟨.int .u64, 1, false, [.sc (.int .u64 0)], []⟩
  | 98 => some ⟨.int .u8, 1, false, [.sc (.int .u8 0)], []⟩
  | _ => none
def tyTab : List (Nat × TI) := [(2, ⟨.int .i64, 1, false, [.sc (.int .i64 0)], []⟩), (3, ⟨.int .i64, 1, false, [.sc (.int .i64 0)], []⟩), (4, ⟨.bool, 1, false, [.sc (.bool false)], []⟩), (5, ⟨.int .u8, 1, false, [.sc (.int .u8 0)], []⟩), (6, ⟨.int .u8, 1, false, [.sc (.int .u8 0)], []⟩), (8, ⟨.st [(0, 1, false), (1, 1, false), (2, 1, false), (3, 1, false)], 4, true, [.sc (.int .i64 0), .sc (.int .i64 0), .sc (.bool false), .sc (.int .u8 0)], []⟩), (9, ⟨.str, 1, false, [.sc (.string ⟨#[]⟩)], []⟩), (10, ⟨.str, 1, false, [.sc (.string ⟨#[]⟩)], []⟩), (11, ⟨.str, 1, false, [.sc (.string ⟨#[]⟩)], []⟩), (12, ⟨.int .u64, 1, false, [.sc (.int .u64 0)], []⟩), (14, ⟨.st [(0, 1, false), (1, 1, false)], 2, true, [.sc (.string ⟨#[]⟩), .sc (.int .u64 0)], []⟩), (15, ⟨.oth, 1, false, [.sc (.pointer none)], []⟩), (16, ⟨.oth, 1, false, [.sc (.pointer none)], []⟩), (17, ⟨.oth, 1, false, [.sc (.pointer none)], []⟩), (19, ⟨.st [(0, 1, false)], 1, true, [.sc (.pointer none)], []⟩), (20, ⟨.oth, 1, false, [.sc .nilIface], []⟩), (22, ⟨.sl 3 1 8, 1, false, [.sl false 1 []], []⟩), (24, ⟨.st [(0, 1, false), (1, 1, false), (2, 1, false)], 3, true, [.sc (.int .i64 0), .sc (.int .i64 0), .sl false 1 []], []⟩), (27, ⟨.st [(0, 1, false), (1, 1, false), (2, 1, false)], 3, true, [.sc (.int .i64 0), .sc (.int .i64 0), .sl false 1 []], []⟩), (32, ⟨.st [(0, 1, false), (1, 1, false), (2, 1, false), (3, 1, false), (4, 1, false)], 5, true, [.sc (.int .i64 0), .sc (.int .i64 0), .sl false 1 [], .sc (.string ⟨#[]⟩), .sc (.string ⟨#[]⟩)], []⟩), (35, ⟨.st [(0, 1, false), (1, 1, false), (2, 1, false), (3, 1, false), (4, 1, false)], 5, true, [.sc (.int .i64 0), .sc (.int .i64 0), .sl false 1 [], .sc (.string ⟨#[]⟩), .sc (.string ⟨#[]⟩)], []⟩), (49, ⟨.st [(0, 1, false), (1, 1, false)], 2, true, [.sc (.int .i64 0), .sc (.int .i64 0)], []⟩), (60, ⟨.sl 5 1 1, 1, false, [.sl false 1 []], []⟩), (69, ⟨.oth, 1, false, [.sc .nilFunc], []⟩), (80, ⟨.oth, 1, false, [.sc .nilFunc], []⟩), (81, ⟨.oth, 1, false, [.sc (.pointer none)], []⟩), (82, ⟨.int .u64, 1, false, [.sc (.int .u64 0)], []⟩), (84, ⟨.st [(0, 1, false), (1, 1, false), (2, 1, false)], 3, true, [.sl false 1 [], .sc (.int .i64 0), .sc (.int .u64 0)], []⟩), (89, ⟨.int .u64, 1, false, [.sc (.int .u64 0)], []⟩), (98, ⟨.int .u8, 1, false, [.sc (.int .u8 0)], []⟩)]
@[simp] theorem T2 : T 2 = some ⟨.int .i64, 1, false, [.sc (.int .i64 0)], []⟩ := rfl
@[simp] theorem T3 : T 3 = some ⟨.int .i64, 1, false, [.sc (.int .i64 0)], []⟩ := rfl
@[simp] theorem T4 : T 4 = some ⟨.bool, 1, false, [.sc (.bool false)], []⟩ := rfl
@[simp] theorem T5 : T 5 = some ⟨.int .u8, 1, false, [.sc (.int .u8 0)], []⟩ := rfl
@[simp] theorem T6 : T 6 = some ⟨.int .u8, 1, false, [.sc (.int .u8 0)], []⟩ := rfl
@[simp] theorem T8 : T 8 = some ⟨.st [(0, 1, false), (1, 1, false), (2, 1, false), (3, 1, false)], 4, true, [.sc (.int .i64 0), .sc (.int .i64 0), .sc (.bool false), .sc (.int .u8 0)], []⟩ := rfl
@[simp] theorem T9 : T 9 = some ⟨.str, 1, false, [.sc (.string ⟨#[]⟩)], []⟩ := rfl
@[simp] theorem T10 : T 10 = some ⟨.str, 1, false, [.sc (.string ⟨#[]⟩)], []⟩ := rfl
@[simp] theorem T11 : T 11 = some ⟨.str, 1, false, [.sc (.string ⟨#[]⟩)], []⟩ := rfl
@[simp] theorem T12 : T 12 = some ⟨.int .u64, 1, false, [.sc (.int .u64 0)], []⟩ := rfl
@[simp] theorem T14 : T 14 = some ⟨.st [(0, 1, false), (1, 1, false)], 2, true, [.sc (.string ⟨#[]⟩), .sc (.int .u64 0)], []⟩ := rfl
@[simp] theorem T15 : T 15 = some ⟨.oth, 1, false, [.sc (.pointer none)], []⟩ := rfl
@[simp] theorem T16 : T 16 = some ⟨.oth, 1, false, [.sc (.pointer none)], []⟩ := rfl
@[simp] theorem T17 : T 17 = some ⟨.oth, 1, false, [.sc (.pointer none)], []⟩ := rfl
@[simp] theorem T19 : T 19 = some ⟨.st [(0, 1, false)], 1, true, [.sc (.pointer none)], []⟩ := rfl
@[simp] theorem T20 : T 20 = some ⟨.oth, 1, false, [.sc .nilIface], []⟩ := rfl
@[simp] theorem T22 : T 22 = some ⟨.sl 3 1 8, 1, false, [.sl false 1 []], []⟩ := rfl
@[simp] theorem T24 : T 24 = some ⟨.st [(0, 1, false), (1, 1, false), (2, 1, false)], 3, true, [.sc (.int .i64 0), .sc (.int .i64 0), .sl false 1 []], []⟩ := rfl
@[simp] theorem T27 : T 27 = some ⟨.st [(0, 1, false), (1, 1, false), (2, 1, false)], 3, true, [.sc (.int .i64 0), .sc (.int .i64 0), .sl false 1 []], []⟩ := rfl
@[simp] theorem T32 : T 32 = some ⟨.st [(0, 1, false), (1, 1, false), (2, 1, false), (3, 1, false), (4, 1, false)], 5, true, [.sc (.int .i64 0), .sc (.int .i64 0), .sl false 1 [], .sc (.string ⟨#[]⟩), .sc (.string ⟨#[]⟩)], []⟩ := rfl
@[simp] theorem T35 : T 35 = some ⟨.st [(0, 1, false), (1, 1, false), (2, 1, false), (3, 1, false), (4, 1, false)], 5, true, [.sc (.int .i64 0), .sc (.int .i64 0), .sl false 1 [], .sc (.string ⟨#[]⟩), .sc (.string ⟨#[]⟩)], []⟩ := rfl
@[simp] theorem T49 : T 49 = some ⟨.st [(0, 1, false), (1, 1, false)], 2, true, [.sc (.int .i64 0), .sc (.int .i64 0)], []⟩ := rfl
@[simp] theorem T60 : T 60 = some ⟨.sl 5 1 1, 1, false, [.sl false 1 []], []⟩ := rfl
@[simp] theorem T69 : T 69 = some ⟨.oth, 1, false, [.sc .nilFunc], []⟩ := rfl
@[simp] theorem T80 : T 80 = some ⟨.oth, 1, false, [.sc .nilFunc], []⟩ := rfl
@[simp] theorem T81 : T 81 = some ⟨.oth, 1, false, [.sc (.pointer none)], []⟩ := rfl
@[simp] theorem T82 : T 82 = some ⟨.int .u64, 1, false, [.sc (.int .u64 0)], []⟩ := rfl
@[simp] theorem T84 : T 84 = some ⟨.st [(0, 1, false), (1, 1, false), (2, 1, false)], 3, true, [.sl false 1 [], .sc (.int .i64 0), .sc (.int .u64 0)], []⟩ := rfl
@[simp] theorem T89 : T 89 = some ⟨.int .u64, 1, false, [.sc (.int .u64 0)], []⟩ := rfl
@[simp] theorem T98 : T 98 = some ⟨.int .u8, 1, false, [.sc (.int .u8 0)], []⟩ := rfl
theorem tok : TOK Try.prog T := by
  have h : tyTab.all (chkTI Try.prog) = true := by kernel_rfl
  intro t i hi
  refine chkTI_ok (List.all_eq_true.1 h (t, i) ?_)
  unfold T at hi
  split at hi <;> first | (cases hi; simp [tyTab]; done) | cases hi
theorem mixed : Try.prog.follows .mixedOrders = true := by kernel_rfl
@[simp] theorem hb3 : HasBody Try.prog 3 := ⟨Try.f3, Try.func3, by kernel_rfl, by kernel_rfl⟩
@[simp] theorem hb4 : HasBody Try.prog 4 := ⟨Try.f4, Try.func4, by kernel_rfl, by kernel_rfl⟩
@[simp] theorem hb5 : HasBody Try.prog 5 := ⟨Try.f5, Try.func5, by kernel_rfl, by kernel_rfl⟩
@[simp] theorem hb6 : HasBody Try.prog 6 := ⟨Try.f6, Try.func6, by kernel_rfl, by kernel_rfl⟩
@[simp] theorem hb7 : HasBody Try.prog 7 := ⟨Try.f7, Try.func7, by kernel_rfl, by kernel_rfl⟩
@[simp] theorem hb8 : HasBody Try.prog 8 := ⟨Try.f8, Try.func8, by kernel_rfl, by kernel_rfl⟩
@[simp] theorem hb9 : HasBody Try.prog 9 := ⟨Try.f9, Try.func9, by kernel_rfl, by kernel_rfl⟩
@[simp] theorem hb10 : HasBody Try.prog 10 := ⟨Try.f10, Try.func10, by kernel_rfl, by kernel_rfl⟩
@[simp] theorem hb11 : HasBody Try.prog 11 := ⟨Try.f11, Try.func11, by kernel_rfl, by kernel_rfl⟩
@[simp] theorem hb12 : HasBody Try.prog 12 := ⟨Try.f12, Try.func12, by kernel_rfl, by kernel_rfl⟩
@[simp] theorem hb13 : HasBody Try.prog 13 := ⟨Try.f13, Try.func13, by kernel_rfl, by kernel_rfl⟩
@[simp] theorem hb14 : HasBody Try.prog 14 := ⟨Try.f14, Try.func14, by kernel_rfl, by kernel_rfl⟩
@[simp] theorem hb15 : HasBody Try.prog 15 := ⟨Try.f15, Try.func15, by kernel_rfl, by kernel_rfl⟩
@[simp] theorem hb16 : HasBody Try.prog 16 := ⟨Try.f16, Try.func16, by kernel_rfl, by kernel_rfl⟩
@[simp] theorem hb17 : HasBody Try.prog 17 := ⟨Try.f17, Try.func17, by kernel_rfl, by kernel_rfl⟩
@[simp] theorem hb18 : HasBody Try.prog 18 := ⟨Try.f18, Try.func18, by kernel_rfl, by kernel_rfl⟩
@[simp] theorem hb19 : HasBody Try.prog 19 := ⟨Try.f19, Try.func19, by kernel_rfl, by kernel_rfl⟩
@[simp] theorem hb20 : HasBody Try.prog 20 := ⟨Try.f20, Try.func20, by kernel_rfl, by kernel_rfl⟩
@[simp] theorem hb21 : HasBody Try.prog 21 := ⟨Try.f21, Try.func21, by kernel_rfl, by kernel_rfl⟩
@[simp] theorem hb22 : HasBody Try.prog 22 := ⟨Try.f22, Try.func22, by kernel_rfl, by kernel_rfl⟩
@[simp] theorem hb23 : HasBody Try.prog 23 := ⟨Try.f23, Try.func23, by kernel_rfl, by kernel_rfl⟩
@[simp] theorem hb24 : HasBody Try.prog 24 := ⟨Try.f24, Try.func24, by kernel_rfl, by kernel_rfl⟩
@[simp] theorem hb25 : HasBody Try.prog 25 := ⟨Try.f25, Try.func25, by kernel_rfl, by kernel_rfl⟩
@[simp] theorem hb26 : HasBody Try.prog 26 := ⟨Try.f26, Try.func26, by kernel_rfl, by kernel_rfl⟩
@[simp] theorem hb27 : HasBody Try.prog 27 := ⟨Try.f27, Try.func27, by kernel_rfl, by kernel_rfl⟩
@[simp] theorem hb28 : HasBody Try.prog 28 := ⟨Try.f28, Try.func28, by kernel_rfl, by kernel_rfl⟩
@[simp] theorem hb29 : HasBody Try.prog 29 := ⟨Try.f29, Try.func29, by kernel_rfl, by kernel_rfl⟩
@[simp] theorem hb30 : HasBody Try.prog 30 := ⟨Try.f30, Try.func30, by kernel_rfl, by kernel_rfl⟩
@[simp] theorem hb31 : HasBody Try.prog 31 := ⟨Try.f31, Try.func31, by kernel_rfl, by kernel_rfl⟩
@[simp] theorem hb32 : HasBody Try.prog 32 := ⟨Try.f32, Try.func32, by kernel_rfl, by kernel_rfl⟩
@[simp] theorem hb33 : HasBody Try.prog 33 := ⟨Try.f33, Try.func33, by kernel_rfl, by kernel_rfl⟩
@[simp] theorem hb34 : HasBody Try.prog 34 := ⟨Try.f34, Try.func34, by kernel_rfl, by kernel_rfl⟩
@[simp] theorem hb35 : HasBody Try.prog 35 := ⟨Try.f35, Try.func35, by kernel_rfl, by kernel_rfl⟩
@[simp] theorem hb36 : HasBody Try.prog 36 := ⟨Try.f36, Try.func36, by kernel_rfl, by kernel_rfl⟩
@[simp] theorem hb37 : HasBody Try.prog 37 := ⟨Try.f37, Try.func37, by kernel_rfl, by kernel_rfl⟩
@[simp] theorem hb38 : HasBody Try.prog 38 := ⟨Try.f38, Try.func38, by kernel_rfl, by kernel_rfl⟩
@[simp] theorem hb39 : HasBody Try.prog 39 := ⟨Try.f39, Try.func39, by kernel_rfl, by kernel_rfl⟩
@[simp] theorem hb40 : HasBody Try.prog 40 := ⟨Try.f40, Try.func40, by kernel_rfl, by kernel_rfl⟩
@[simp] theorem hb41 : HasBody Try.prog 41 := ⟨Try.f41, Try.func41, by kernel_rfl, by kernel_rfl⟩
@[simp] theorem hb42 : HasBody Try.prog 42 := ⟨Try.f42, Try.func42, by kernel_rfl, by kernel_rfl⟩
@[simp] theorem hb43 : HasBody Try.prog 43 := ⟨Try.f43, Try.func43, by kernel_rfl, by kernel_rfl⟩
@[simp] theorem hb44 : HasBody Try.prog 44 := ⟨Try.f44, Try.func44, by kernel_rfl, by kernel_rfl⟩
@[simp] theorem hb45 : HasBody Try.prog 45 := ⟨Try.f45, Try.func45, by kernel_rfl, by kernel_rfl⟩
@[simp] theorem hb46 : HasBody Try.prog 46 := ⟨Try.f46, Try.func46, by kernel_rfl, by kernel_rfl⟩
@[simp] theorem hb47 : HasBody Try.prog 47 := ⟨Try.f47, Try.func47, by kernel_rfl, by kernel_rfl⟩
@[simp] theorem hb48 : HasBody Try.prog 48 := ⟨Try.f48, Try.func48, by kernel_rfl, by kernel_rfl⟩
@[simp] theorem hb49 : HasBody Try.prog 49 := ⟨Try.f49, Try.func49, by kernel_rfl, by kernel_rfl⟩
@[simp] theorem hb50 : HasBody Try.prog 50 := ⟨Try.f50, Try.func50, by kernel_rfl, by kernel_rfl⟩
@[simp] theorem hb51 : HasBody Try.prog 51 := ⟨Try.f51, Try.func51, by kernel_rfl, by kernel_rfl⟩
@[simp] theorem hb52 : HasBody Try.prog 52 := ⟨Try.f52, Try.func52, by kernel_rfl, by kernel_rfl⟩
@[simp] theorem hb53 : HasBody Try.prog 53 := ⟨Try.f53, Try.func53, by kernel_rfl, by kernel_rfl⟩
@[simp] theorem hb54 : HasBody Try.prog 54 := ⟨Try.f54, Try.func54, by kernel_rfl, by kernel_rfl⟩
@[simp] theorem hb55 : HasBody Try.prog 55 := ⟨Try.f55, Try.func55, by kernel_rfl, by kernel_rfl⟩
@[simp] theorem hb56 : HasBody Try.prog 56 := ⟨Try.f56, Try.func56, by kernel_rfl, by kernel_rfl⟩
@[simp] theorem hb57 : HasBody Try.prog 57 := ⟨Try.f57, Try.func57, by kernel_rfl, by kernel_rfl⟩
@[simp] theorem hb58 : HasBody Try.prog 58 := ⟨Try.f58, Try.func58, by kernel_rfl, by kernel_rfl⟩
@[simp] theorem hb59 : HasBody Try.prog 59 := ⟨Try.f59, Try.func59, by kernel_rfl, by kernel_rfl⟩
@[simp] theorem hb60 : HasBody Try.prog 60 := ⟨Try.f60, Try.func60, by kernel_rfl, by kernel_rfl⟩
@[simp] theorem hb61 : HasBody Try.prog 61 := ⟨Try.f61, Try.func61, by kernel_rfl, by kernel_rfl⟩
@[simp] theorem hb62 : HasBody Try.prog 62 := ⟨Try.f62, Try.func62, by kernel_rfl, by kernel_rfl⟩
@[simp] theorem hb63 : HasBody Try.prog 63 := ⟨Try.f63, Try.func63, by kernel_rfl, by kernel_rfl⟩
@[simp] theorem hb64 : HasBody Try.prog 64 := ⟨Try.f64, Try.func64, by kernel_rfl, by kernel_rfl⟩
@[simp] theorem hb65 : HasBody Try.prog 65 := ⟨Try.f65, Try.func65, by kernel_rfl, by kernel_rfl⟩
@[simp] theorem hb66 : HasBody Try.prog 66 := ⟨Try.f66, Try.func66, by kernel_rfl, by kernel_rfl⟩
@[simp] theorem hb67 : HasBody Try.prog 67 := ⟨Try.f67, Try.func67, by kernel_rfl, by kernel_rfl⟩
@[simp] theorem hb68 : HasBody Try.prog 68 := ⟨Try.f68, Try.func68, by kernel_rfl, by kernel_rfl⟩
@[simp] theorem hb69 : HasBody Try.prog 69 := ⟨Try.f69, Try.func69, by kernel_rfl, by kernel_rfl⟩
@[simp] theorem hb70 : HasBody Try.prog 70 := ⟨Try.f70, Try.func70, by kernel_rfl, by kernel_rfl⟩
@[simp] theorem hb71 : HasBody Try.prog 71 := ⟨Try.f71, Try.func71, by kernel_rfl, by kernel_rfl⟩
@[simp] theorem hb72 : HasBody Try.prog 72 := ⟨Try.f72, Try.func72, by kernel_rfl, by kernel_rfl⟩
@[simp] theorem hb73 : HasBody Try.prog 73 := ⟨Try.f73, Try.func73, by kernel_rfl, by kernel_rfl⟩
@[simp] theorem hb74 : HasBody Try.prog 74 := ⟨Try.f74, Try.func74, by kernel_rfl, by kernel_rfl⟩
@[simp] theorem hb75 : HasBody Try.prog 75 := ⟨Try.f75, Try.func75, by kernel_rfl, by kernel_rfl⟩
@[simp] theorem hb76 : HasBody Try.prog 76 := ⟨Try.f76, Try.func76, by kernel_rfl, by kernel_rfl⟩
@[simp] theorem hb77 : HasBody Try.prog 77 := ⟨Try.f77, Try.func77, by kernel_rfl, by kernel_rfl⟩
@[simp] theorem hb78 : HasBody Try.prog 78 := ⟨Try.f78, Try.func78, by kernel_rfl, by kernel_rfl⟩
@[simp] theorem hb79 : HasBody Try.prog 79 := ⟨Try.f79, Try.func79, by kernel_rfl, by kernel_rfl⟩
@[simp] theorem hb80 : HasBody Try.prog 80 := ⟨Try.f80, Try.func80, by kernel_rfl, by kernel_rfl⟩
@[simp] theorem hb81 : HasBody Try.prog 81 := ⟨Try.f81, Try.func81, by kernel_rfl, by kernel_rfl⟩
@[simp] theorem hb82 : HasBody Try.prog 82 := ⟨Try.f82, Try.func82, by kernel_rfl, by kernel_rfl⟩
@[simp] theorem hb83 : HasBody Try.prog 83 := ⟨Try.f83, Try.func83, by kernel_rfl, by kernel_rfl⟩
@[simp] theorem hb84 : HasBody Try.prog 84 := ⟨Try.f84, Try.func84, by kernel_rfl, by kernel_rfl⟩
@[simp] theorem hb85 : HasBody Try.prog 85 := ⟨Try.f85, Try.func85, by kernel_rfl, by kernel_rfl⟩
@[simp] theorem hb86 : HasBody Try.prog 86 := ⟨Try.f86, Try.func86, by kernel_rfl, by kernel_rfl⟩
@[simp] theorem hb87 : HasBody Try.prog 87 := ⟨Try.f87, Try.func87, by kernel_rfl, by kernel_rfl⟩
@[simp] theorem hb88 : HasBody Try.prog 88 := ⟨Try.f88, Try.func88, by kernel_rfl, by kernel_rfl⟩
@[simp] theorem hb89 : HasBody Try.prog 89 := ⟨Try.f89, Try.func89, by kernel_rfl, by kernel_rfl⟩
@[simp] theorem hb90 : HasBody Try.prog 90 := ⟨Try.f90, Try.func90, by kernel_rfl, by kernel_rfl⟩
@[simp] theorem hb91 : HasBody Try.prog 91 := ⟨Try.f91, Try.func91, by kernel_rfl, by kernel_rfl⟩
@[simp] theorem hb92 : HasBody Try.prog 92 := ⟨Try.f92, Try.func92, by kernel_rfl, by kernel_rfl⟩
@[simp] theorem hb93 : HasBody Try.prog 93 := ⟨Try.f93, Try.func93, by kernel_rfl, by kernel_rfl⟩
end Go.Proofs.Ytgojidjfidldbaa.EngS

set_option linter.unusedSimpArgs false
set_option linter.unusedVariables false
namespace Go.Proofs.Ytgojidjfidldbaa.EngS
open Go Go.Proofs Go.Eng
abbrev int (n : Int) : D := .v (.sc (.int .i64 n))
abbrev boo (b : Bool) : D := .v (.sc (.bool b))
def ints (xs : List Int) : List PV := xs.map fun x => .sc (.int .i64 x)
@[simp] theorem ints_len (xs) : (ints xs).length = xs.length := by simp [ints]
@[simp] theorem ints_get (xs : List Int) (i : Nat) : (ints xs)[i]? = (xs[i]?).map fun x => .sc (.int .i64 x) := by simp [ints]
@[simp] theorem ints_at (xs : List Int) (i : Nat) (h : i < (ints xs).length) : (ints xs)[i] = .sc (.int .i64 (xs[i]'(by simpa using h))) := by simp [ints]
@[simp] theorem ints_frz (xs) : PV.frzs (ints xs) = ints xs := by simp [ints]
def inR (lo hi n : Int) : Bool := decide (lo ≤ n) && decide (n ≤ hi)
theorem inR_iff {lo hi n : Int} : inR lo hi n = true ↔ lo ≤ n ∧ n ≤ hi := by simp [inR]
theorem c_impl_within (n lo hi : Int) : ACall Try.prog 56 [int n, int lo, int hi] [.x, .x, .x] [boo (inR lo hi n)] := by
  refine ACall.of (N := 15) tok Try.func56 rfl rfl rfl (by simp) ?_
  repeat' (first | with_reducible refine OutOK.done ?_ | refine thenQ_n ?_ | refine thenQ_r ?_ | refine thenQ_e ?_ | refine AW.seq ?_ | refine AW.reg tok (by simp [*]; rfl) ?_ | refine AW.ifB (by simp [*]; rfl) ?_ | refine IfG.t ?_ | refine IfG.f ?_ | (refine IfG.p (fun hg => ?_) (fun hg => ?_) <;> (try (have hg' := hg; simp at hg'))) | (refine IfG.n (fun hg => ?_) (fun hg => ?_) <;> (try (have hg' := hg; simp at hg'))) | (refine OutOK.gateP (fun hg => ?_) (fun hg => ?_) <;> (try (have hg' := hg; simp at hg'))) | (refine OutOK.gateN (fun hg => ?_) (fun hg => ?_) <;> (try (have hg' := hg; simp at hg'))) | (refine IfG.g (fun hg => ?_) (fun hg => ?_) <;> (try (have hg' := hg; simp at hg'))) | (refine OutOK.gate (fun hg => ?_) (fun hg => ?_) <;> (try (have hg' := hg; simp at hg'))) | refine OutOK.run (by simp [*]; rfl) ?_ | refine AW.ret ?_ | refine AW.skip ?_ | refine AW.exit ?_ | refine fin_r ?_ | refine fin_n ?_ | refine AW.block ?_ | refine blockQ_n ?_ | refine blockQ_r ?_ | refine blockQ_e ?_ | refine blockQ_o rfl ?_)
  all_goals simp [*, Try.f56, inR]
theorem c_spec_l1In (n lo hi : Int) : ACall Try.prog 61 [int n, int lo, int hi] [.x, .x, .x] [boo (inR lo hi n)] := by
  refine ACall.of (N := 15) tok Try.func61 rfl rfl rfl (by simp) ?_
  repeat' (first | with_reducible refine OutOK.done ?_ | refine thenQ_n ?_ | refine thenQ_r ?_ | refine thenQ_e ?_ | refine AW.seq ?_ | refine AW.reg tok (by simp [*]; rfl) ?_ | refine AW.ifB (by simp [*]; rfl) ?_ | refine IfG.t ?_ | refine IfG.f ?_ | (refine IfG.p (fun hg => ?_) (fun hg => ?_) <;> (try (have hg' := hg; simp at hg'))) | (refine IfG.n (fun hg => ?_) (fun hg => ?_) <;> (try (have hg' := hg; simp at hg'))) | (refine OutOK.gateP (fun hg => ?_) (fun hg => ?_) <;> (try (have hg' := hg; simp at hg'))) | (refine OutOK.gateN (fun hg => ?_) (fun hg => ?_) <;> (try (have hg' := hg; simp at hg'))) | (refine IfG.g (fun hg => ?_) (fun hg => ?_) <;> (try (have hg' := hg; simp at hg'))) | (refine OutOK.gate (fun hg => ?_) (fun hg => ?_) <;> (try (have hg' := hg; simp at hg'))) | refine OutOK.run (by simp [*]; rfl) ?_ | refine AW.ret ?_ | refine AW.skip ?_ | refine AW.exit ?_ | refine fin_r ?_ | refine fin_n ?_ | refine AW.block ?_ | refine blockQ_n ?_ | refine blockQ_r ?_ | refine blockQ_e ?_ | refine blockQ_o rfl ?_)
  all_goals simp [*, Try.f61, inR]
theorem c_impl_IsValidSurface_1 (n : Int) : ACall Try.prog 58 [int n] [.x] [boo (!inR 0 10000 n)] := by
  refine ACall.of (N := 6) tok Try.func58 rfl rfl rfl (by simp) ?_
  repeat' (first | with_reducible refine OutOK.done ?_ | refine thenQ_n ?_ | refine thenQ_r ?_ | refine thenQ_e ?_ | refine AW.seq ?_ | refine AW.reg tok (by simp [*]; rfl) ?_ | refine AW.ifB (by simp [*]; rfl) ?_ | refine IfG.t ?_ | refine IfG.f ?_ | (refine IfG.p (fun hg => ?_) (fun hg => ?_) <;> (try (have hg' := hg; simp at hg'))) | (refine IfG.n (fun hg => ?_) (fun hg => ?_) <;> (try (have hg' := hg; simp at hg'))) | (refine OutOK.gateP (fun hg => ?_) (fun hg => ?_) <;> (try (have hg' := hg; simp at hg'))) | (refine OutOK.gateN (fun hg => ?_) (fun hg => ?_) <;> (try (have hg' := hg; simp at hg'))) | (refine IfG.g (fun hg => ?_) (fun hg => ?_) <;> (try (have hg' := hg; simp at hg'))) | (refine OutOK.gate (fun hg => ?_) (fun hg => ?_) <;> (try (have hg' := hg; simp at hg'))) | (refine OutOK.callF [] (by simp [*]; rfl) (by simp [*]; rfl) (by simp [*]; rfl) hb56 (by apply c_impl_within <;> first | assumption | exact Hd.out (by assumption) | ((try (clear e0)); (try (clear e1)); (try (clear e2)); (try (clear e3)); (try (clear e4)); (try (clear e5)); (try (clear e6)); (try (clear e7)); (try (clear e8)); (try (clear e9)); (try (clear e10)); (try (clear e11)); omega)) ⟨by simp [*], by simp [*], by simp [*], by simp [*], by simp [*]⟩ (by simp [*]) (by simp [*]; rfl) ?_) | refine OutOK.run (by simp [*]; rfl) ?_ | refine AW.ret ?_ | refine AW.skip ?_ | refine AW.exit ?_ | refine fin_r ?_ | refine fin_n ?_ | refine AW.block ?_ | refine blockQ_n ?_ | refine blockQ_r ?_ | refine blockQ_e ?_ | refine blockQ_o rfl ?_)
  all_goals (try simp [*, Try.f58])
theorem c_laws_eqIntS (xs ys : List Int) (h : xs.length < 9223372036854775807) : ACall Try.prog 40 [.v (.sl true 1 (ints xs)), .v (.sl true 1 (ints ys))] [.x, .x] [boo (decide (xs = ys))] := by
  refine ACall.of (N := 26) tok Try.func40 rfl rfl rfl (by simp) ?_
  repeat' (first | with_reducible refine OutOK.done ?_ | refine thenQ_n ?_ | refine thenQ_r ?_ | refine thenQ_e ?_ | refine AW.seq ?_ | refine AW.dreg tok mixed [7]  [(0, false), (1, false), (2, false), (4, false), (5, false), (6, false), (3, false), (7, true), (8, false)] (by decide +kernel) rfl (by simp [*]; rfl) ?_ | refine AW.reg tok (by simp [*]; rfl) ?_ | refine AW.ifB (by simp [*]; rfl) ?_ | refine IfG.t ?_ | refine IfG.f ?_ | (refine IfG.p (fun hg => ?_) (fun hg => ?_) <;> (try (have hg' := hg; simp at hg'))) | (refine IfG.n (fun hg => ?_) (fun hg => ?_) <;> (try (have hg' := hg; simp at hg'))) | (refine OutOK.gateP (fun hg => ?_) (fun hg => ?_) <;> (try (have hg' := hg; simp at hg'))) | (refine OutOK.gateN (fun hg => ?_) (fun hg => ?_) <;> (try (have hg' := hg; simp at hg'))) | (refine IfG.g (fun hg => ?_) (fun hg => ?_) <;> (try (have hg' := hg; simp at hg'))) | (refine OutOK.gate (fun hg => ?_) (fun hg => ?_) <;> (try (have hg' := hg; simp at hg'))) | refine OutOK.run (by simp [*]; rfl) ?_ | refine AW.ret ?_ | refine AW.skip ?_ | refine AW.exit ?_ | refine fin_r ?_ | refine fin_n ?_ | refine AW.block ?_ | refine blockQ_n ?_ | refine blockQ_r ?_ | refine blockQ_e ?_ | refine blockQ_o rfl ?_)
  · have : ¬ xs = ys := fun e => by subst e; simp at *
    simp [Try.f40, this]
  refine AW.loopL (α := Nat) (fun i => i ≤ xs.length ∧ ∀ j < i, xs[j]? = ys[j]?) (fun i => [(0, .c (.sl true 1 (ints xs))), (1, .c (.sl true 1 (ints ys))), (4, .c (.sc (.bool false))), (5, .c (.sc (.int .i64 (i : Int))))]) (fun _ => []) (fun i => xs.length - i) 0 ⟨Nat.zero_le _, by simp⟩ ⟨by simp, by simp, by simp⟩ ?_
  rintro i ⟨hi, hs⟩
  have hl : xs.length = ys.length := by omega
  repeat' (first | with_reducible refine OutOK.done ?_ | refine thenQ_n ?_ | refine thenQ_r ?_ | refine thenQ_e ?_ | refine AW.seq ?_ | refine AW.dreg tok mixed [7]  [(0, false), (1, false), (2, false), (4, false), (5, false), (6, false), (3, false), (7, true), (8, false)] (by decide +kernel) rfl (by simp [*]; rfl) ?_ | refine AW.reg tok (by simp [*]; rfl) ?_ | refine AW.ifB (by simp [*]; rfl) ?_ | refine IfG.t ?_ | refine IfG.f ?_ | (refine IfG.p (fun hg => ?_) (fun hg => ?_) <;> (try (have hg' := hg; simp at hg'))) | (refine IfG.n (fun hg => ?_) (fun hg => ?_) <;> (try (have hg' := hg; simp at hg'))) | (refine OutOK.gateP (fun hg => ?_) (fun hg => ?_) <;> (try (have hg' := hg; simp at hg'))) | (refine OutOK.gateN (fun hg => ?_) (fun hg => ?_) <;> (try (have hg' := hg; simp at hg'))) | (refine IfG.g (fun hg => ?_) (fun hg => ?_) <;> (try (have hg' := hg; simp at hg'))) | (refine OutOK.gate (fun hg => ?_) (fun hg => ?_) <;> (try (have hg' := hg; simp at hg'))) | refine OutOK.run (by simp [*]; rfl) ?_ | refine AW.ret ?_ | refine AW.skip ?_ | refine AW.exit ?_ | refine fin_r ?_ | refine fin_n ?_ | refine AW.block ?_ | refine blockQ_n ?_ | refine blockQ_r ?_ | refine blockQ_e ?_ | refine blockQ_o rfl ?_)
  · have : ¬ xs = ys := fun e => by subst e; simp at *
    simp [Try.f40, this]
  · have hi' : i < xs.length := by omega
    refine ⟨i + 1, ⟨hi', fun j hj => ?_⟩, ⟨?_, by simp, by simp⟩, by omega⟩
    · rcases Nat.lt_succ_iff_lt_or_eq.1 hj with h1 | h1
      · exact hs j h1
      · subst h1; simp [*]
    · simp
      rw [w64 (by omega) (by omega)]
  · have : xs = ys := List.ext_getElem? fun j => by
      rcases Nat.lt_or_ge j i with h1 | h1
      · exact hs j h1
      · rw [List.getElem?_eq_none (by omega), List.getElem?_eq_none (by omega)]
    simp [Try.f40, this]
def lef (l : Int) (n : Nat) : Int := if l - n < 0 then -1 else l - n
theorem lef_neg {l : Int} {n : Nat} (h : lef l n < 0) : lef l n = -1 := by unfold lef at *; split at h <;> first | (split <;> omega) | omega
theorem lef_low (l : Int) (n : Nat) : -1 ≤ lef l n := by unfold lef; split <;> omega
theorem lef_le (l : Int) (n : Nat) (h : -1 ≤ l) : lef l n ≤ l := by unfold lef; split <;> omega
theorem c_laws_szIntS (xs : List Int) (l : Int) (h : -9223372036854775808 ≤ l - xs.length) (h' : l < 9223372036854775807) : ACall Try.prog 53 [.v (.sl true 1 (ints xs)), int l] [.x, .x] [int (lef l xs.length)] := by
  have hw : RowKit.wrap64 (l - xs.length) = l - xs.length := w64 h (by omega)
  refine ACall.of (N := 12) tok Try.func53 rfl rfl rfl (by simp) ?_
  repeat' (first | with_reducible refine OutOK.done ?_ | refine thenQ_n ?_ | refine thenQ_r ?_ | refine thenQ_e ?_ | refine AW.seq ?_ | refine AW.reg tok (by simp [*]; rfl) ?_ | refine AW.ifB (by simp [*]; rfl) ?_ | refine IfG.t ?_ | refine IfG.f ?_ | (refine IfG.p (fun hg => ?_) (fun hg => ?_) <;> (try (have hg' := hg; simp at hg'))) | (refine IfG.n (fun hg => ?_) (fun hg => ?_) <;> (try (have hg' := hg; simp at hg'))) | (refine OutOK.gateP (fun hg => ?_) (fun hg => ?_) <;> (try (have hg' := hg; simp at hg'))) | (refine OutOK.gateN (fun hg => ?_) (fun hg => ?_) <;> (try (have hg' := hg; simp at hg'))) | (refine IfG.g (fun hg => ?_) (fun hg => ?_) <;> (try (have hg' := hg; simp at hg'))) | (refine OutOK.gate (fun hg => ?_) (fun hg => ?_) <;> (try (have hg' := hg; simp at hg'))) | refine OutOK.run (by simp [*]; rfl) ?_ | refine AW.ret ?_ | refine AW.skip ?_ | refine AW.exit ?_ | refine fin_r ?_ | refine fin_n ?_ | refine AW.block ?_ | refine blockQ_n ?_ | refine blockQ_r ?_ | refine blockQ_e ?_ | refine blockQ_o rfl ?_)
  all_goals simp [*, Try.f53, lef]
attribute [irreducible] inR
end Go.Proofs.Ytgojidjfidldbaa.EngS


set_option linter.unusedSimpArgs false
set_option linter.unusedVariables false
namespace Go.Proofs.Ytgojidjfidldbaa.EngS
open Go Go.Proofs Go.Eng
@[simp] theorem rep_ints (n : Nat) (x : Int) : List.replicate n (PV.sc (.int .i64 x)) = ints (List.replicate n x) := by simp [ints]
@[simp] theorem ints_set (xs : List Int) (i : Nat) (x : Int) : (ints xs).set i (.sc (.int .i64 x)) = ints (xs.set i x) := by simp [ints, List.map_set]
@[simp] theorem ints_inj (xs ys : List Int) : ints xs = ints ys ↔ xs = ys := by
  constructor
  · intro h
    have := congrArg (List.map fun p => match p with | PV.sc (.int _ x) => x | _ => 0) h
    simpa [ints, Function.comp_def] using this
  · rintro rfl; rfl
@[simp] theorem ints_nofz (xs : List Int) : PV.nofzs (ints xs) = true := by
  induction xs with
  | nil => rfl
  | cons x xs ih => simpa [ints] using ih
def copied {α : Type} (z : α) (xs : List α) (i : Nat) : List α := xs.take i ++ List.replicate (xs.length - i) z
@[simp] theorem copied_len {α : Type} (z : α) (xs : List α) (i : Nat) (h : i ≤ xs.length) : (copied z xs i).length = xs.length := by simp [copied]; omega
theorem copied_zero {α : Type} (z : α) (xs : List α) : copied z xs 0 = List.replicate xs.length z := by simp [copied]
theorem copied_all {α : Type} (z : α) (xs : List α) (i : Nat) (h : xs.length ≤ i) : copied z xs i = xs := by simp [copied, List.take_of_length_le h, show xs.length - i = 0 by omega]
theorem copied_step {α : Type} (z : α) (xs : List α) (i : Nat) (h : i < xs.length) : (copied z xs i).set i xs[i] = copied z xs (i + 1) := by
  unfold copied
  apply List.ext_getElem?
  intro j
  have e1 : min i xs.length = i := Nat.min_eq_left (by omega)
  have e2 : min (i + 1) xs.length = i + 1 := Nat.min_eq_left (by omega)
  simp only [List.getElem?_set, List.getElem?_append, List.length_take, List.length_append, List.length_replicate, List.getElem?_take, List.getElem?_replicate, e1, e2]
  rcases Nat.lt_trichotomy j i with h1 | h1 | h1
  · rw [if_neg (by omega), if_pos h1, if_pos h1, if_pos (by omega), if_pos (by omega)]
  · subst h1
    rw [if_pos rfl, if_pos (by omega), if_pos (by omega), if_pos (by omega), List.getElem?_eq_getElem h]
  · have a1 : ¬ i = j := by omega
    have a2 : ¬ j < i := by omega
    have a3 : ¬ j < i + 1 := by omega
    simp only [a1, a2, a3, if_false]
    by_cases h2 : j < xs.length
    · rw [if_pos (by omega), if_pos (by omega)]
    · rw [if_neg (by omega), if_neg (by omega)]
theorem c_laws_toIntS (xs : List Int) (h : xs.length ≤ 1048576) : ACall Try.prog 55 [.v (.sl true 1 (ints xs))] [.x] [.v (.sl false 1 (ints xs))] := by
  have h1 : (xs.length : Int) * 8 ≤ 140737488355328 := by omega
  have h2 : (xs.length : Int) ≤ 4611686018427387904 := by omega
  refine ACall.of (N := 22) tok Try.func55 rfl rfl rfl (by simp) ?_
  repeat' (first | with_reducible refine OutOK.done ?_ | refine thenQ_n ?_ | refine thenQ_r ?_ | refine thenQ_e ?_ | refine AW.seq ?_ | refine AW.reg tok (by simp [*]; rfl) ?_ | refine AW.ifB (by simp [*]; rfl) ?_ | refine IfG.t ?_ | refine IfG.f ?_ | (refine IfG.p (fun hg => ?_) (fun hg => ?_) <;> (try (have hg' := hg; simp at hg'))) | (refine IfG.n (fun hg => ?_) (fun hg => ?_) <;> (try (have hg' := hg; simp at hg'))) | (refine OutOK.gateP (fun hg => ?_) (fun hg => ?_) <;> (try (have hg' := hg; simp at hg'))) | (refine OutOK.gateN (fun hg => ?_) (fun hg => ?_) <;> (try (have hg' := hg; simp at hg'))) | (refine IfG.g (fun hg => ?_) (fun hg => ?_) <;> (try (have hg' := hg; simp at hg'))) | (refine OutOK.gate (fun hg => ?_) (fun hg => ?_) <;> (try (have hg' := hg; simp at hg'))) | refine OutOK.run (by simp [*]; rfl) ?_ | refine AW.ret ?_ | refine AW.skip ?_ | refine AW.exit ?_ | refine fin_r ?_ | refine fin_n ?_ | refine AW.block ?_ | refine blockQ_n ?_ | refine blockQ_r ?_ | refine blockQ_e ?_ | refine blockQ_o rfl ?_)
  refine AW.loopL (fun i => i ≤ xs.length) (fun i => [(0, .c (.sl true 1 (ints xs))), (3, .rf 7000 []), (4, .c (.sc (.int .i64 (i : Int))))]) (fun i => [(7000, .sv (.sl false 1 (ints (copied 0 xs i))))]) (fun i => xs.length - i) 0 (Nat.zero_le _) ⟨by simp, by simp [copied_zero], by simp⟩ ?_
  intro i hi
  repeat' (first | with_reducible refine OutOK.done ?_ | refine thenQ_n ?_ | refine thenQ_r ?_ | refine thenQ_e ?_ | refine AW.seq ?_ | refine AW.reg tok (by simp [*]; rfl) ?_ | refine AW.ifB (by simp [*]; rfl) ?_ | refine IfG.t ?_ | refine IfG.f ?_ | (refine IfG.p (fun hg => ?_) (fun hg => ?_) <;> (try (have hg' := hg; simp at hg'))) | (refine IfG.n (fun hg => ?_) (fun hg => ?_) <;> (try (have hg' := hg; simp at hg'))) | (refine OutOK.gateP (fun hg => ?_) (fun hg => ?_) <;> (try (have hg' := hg; simp at hg'))) | (refine OutOK.gateN (fun hg => ?_) (fun hg => ?_) <;> (try (have hg' := hg; simp at hg'))) | (refine IfG.g (fun hg => ?_) (fun hg => ?_) <;> (try (have hg' := hg; simp at hg'))) | (refine OutOK.gate (fun hg => ?_) (fun hg => ?_) <;> (try (have hg' := hg; simp at hg'))) | refine OutOK.run (by simp [*]; rfl) ?_ | refine AW.ret ?_ | refine AW.skip ?_ | refine AW.exit ?_ | refine fin_r ?_ | refine fin_n ?_ | refine AW.block ?_ | refine blockQ_n ?_ | refine blockQ_r ?_ | refine blockQ_e ?_ | refine blockQ_o rfl ?_)
  · refine ⟨i + 1, by omega, ⟨?_, by simp [*, copied_step], by simp⟩, by omega⟩
    simp
    rw [w64 (by omega) (by omega)]
  · simp [Try.f55, copied_all _ _ _ hg']
@[simp] theorem ints_coks (xs : List Int) : PV.coks (ints xs) = true := by
  induction xs with
  | nil => rfl
  | cons x xs ih => simpa [ints] using ih
@[simp] theorem ints_eq_nil (xs : List Int) : ints xs = [] ↔ xs = [] := by simp [ints]
@[simp] theorem ints_nil : ints [] = [] := rfl
@[simp] theorem ints_snoc (xs : List Int) (y : Int) : ints xs ++ [.sc (.int .i64 y)] = ints (xs ++ [y]) := by simp [ints]
theorem tmod_nat (a b : Nat) : Int.tmod (a : Int) (b : Int) = ((a % b : Nat) : Int) := (Int.ofNat_tmod a b).symm
end Go.Proofs.Ytgojidjfidldbaa.EngS


set_option linter.unusedSimpArgs false
set_option linter.unusedVariables false
namespace Go.Proofs.Ytgojidjfidldbaa.EngS
open Go Go.Proofs Go.Eng
abbrev surf (w d : Int) (cs : List Int) : D := .g [.sc (.int .i64 w), .sc (.int .i64 d), .sl true 1 (ints cs)]
abbrev surfO (w d : Int) (cs : List Int) : D := .g [.sc (.int .i64 w), .sc (.int .i64 d), .sl false 1 (ints cs)]
theorem c_laws_toSurface (w d : Int) (cs : List Int) (h : cs.length ≤ 1048576) : ACall Try.prog 17 [surf w d cs] [.x] [surfO w d cs] := by
  refine ACall.of (N := 15) tok Try.func17 rfl rfl rfl (by simp) ?_
  repeat' (first | with_reducible refine OutOK.done ?_ | refine thenQ_n ?_ | refine thenQ_r ?_ | refine thenQ_e ?_ | refine AW.seq ?_ | refine AW.reg tok (by simp [*]; rfl) ?_ | refine AW.ifB (by simp [*]; rfl) ?_ | refine IfG.t ?_ | refine IfG.f ?_ | (refine IfG.p (fun hg => ?_) (fun hg => ?_) <;> (try (have hg' := hg; simp at hg'))) | (refine IfG.n (fun hg => ?_) (fun hg => ?_) <;> (try (have hg' := hg; simp at hg'))) | (refine OutOK.gateP (fun hg => ?_) (fun hg => ?_) <;> (try (have hg' := hg; simp at hg'))) | (refine OutOK.gateN (fun hg => ?_) (fun hg => ?_) <;> (try (have hg' := hg; simp at hg'))) | (refine IfG.g (fun hg => ?_) (fun hg => ?_) <;> (try (have hg' := hg; simp at hg'))) | (refine OutOK.gate (fun hg => ?_) (fun hg => ?_) <;> (try (have hg' := hg; simp at hg'))) | (refine OutOK.callF [] (by simp [*]; rfl) (by simp [*]; rfl) (by simp [*]; rfl) hb55 (by apply c_laws_toIntS <;> first | assumption | exact Hd.out (by assumption) | ((try (clear e0)); (try (clear e1)); (try (clear e2)); (try (clear e3)); (try (clear e4)); (try (clear e5)); (try (clear e6)); (try (clear e7)); (try (clear e8)); (try (clear e9)); (try (clear e10)); (try (clear e11)); omega)) ⟨by simp [*], by simp [*], by simp [*], by simp [*], by simp [*]⟩ (by simp [*]) (by simp [*]; rfl) ?_) | refine OutOK.run (by simp [*]; rfl) ?_ | refine AW.ret ?_ | refine AW.skip ?_ | refine AW.exit ?_ | refine fin_r ?_ | refine fin_n ?_ | refine AW.block ?_ | refine blockQ_n ?_ | refine blockQ_r ?_ | refine blockQ_e ?_ | refine blockQ_o rfl ?_)
  all_goals (try simp [*, Try.f17])
theorem c_laws_szSurface (w d : Int) (cs : List Int) (l : Int) (h : -9223372036854775808 ≤ l - cs.length) (h' : l < 9223372036854775807) : ACall Try.prog 15 [surf w d cs, int l] [.x, .x] [int (lef l cs.length)] := by
  refine ACall.of (N := 12) tok Try.func15 rfl rfl rfl (by simp) ?_
  repeat' (first | with_reducible refine OutOK.done ?_ | refine thenQ_n ?_ | refine thenQ_r ?_ | refine thenQ_e ?_ | refine AW.seq ?_ | refine AW.reg tok (by simp [*]; rfl) ?_ | refine AW.ifB (by simp [*]; rfl) ?_ | refine IfG.t ?_ | refine IfG.f ?_ | (refine IfG.p (fun hg => ?_) (fun hg => ?_) <;> (try (have hg' := hg; simp at hg'))) | (refine IfG.n (fun hg => ?_) (fun hg => ?_) <;> (try (have hg' := hg; simp at hg'))) | (refine OutOK.gateP (fun hg => ?_) (fun hg => ?_) <;> (try (have hg' := hg; simp at hg'))) | (refine OutOK.gateN (fun hg => ?_) (fun hg => ?_) <;> (try (have hg' := hg; simp at hg'))) | (refine IfG.g (fun hg => ?_) (fun hg => ?_) <;> (try (have hg' := hg; simp at hg'))) | (refine OutOK.gate (fun hg => ?_) (fun hg => ?_) <;> (try (have hg' := hg; simp at hg'))) | (refine OutOK.callF [] (by simp [*]; rfl) (by simp [*]; rfl) (by simp [*]; rfl) hb53 (by apply c_laws_szIntS <;> first | assumption | exact Hd.out (by assumption) | ((try (clear e0)); (try (clear e1)); (try (clear e2)); (try (clear e3)); (try (clear e4)); (try (clear e5)); (try (clear e6)); (try (clear e7)); (try (clear e8)); (try (clear e9)); (try (clear e10)); (try (clear e11)); omega)) ⟨by simp [*], by simp [*], by simp [*], by simp [*], by simp [*]⟩ (by simp [*]) (by simp [*]; rfl) ?_) | refine OutOK.run (by simp [*]; rfl) ?_ | refine AW.ret ?_ | refine AW.skip ?_ | refine AW.exit ?_ | refine fin_r ?_ | refine fin_n ?_ | refine AW.block ?_ | refine blockQ_n ?_ | refine blockQ_r ?_ | refine blockQ_e ?_ | refine blockQ_o rfl ?_)
  · simp [Try.f15, lef_neg hg]
  · simp [Try.f15]
theorem c_laws_eqSurface (w d : Int) (cs : List Int) (w' d' : Int) (cs' : List Int) (h : cs.length < 9223372036854775807) : ACall Try.prog 19 [surf w d cs, surf w' d' cs'] [.x, .x] [boo (decide (w = w') && decide (d = d') && decide (cs = cs'))] := by
  refine ACall.of (N := 21) tok Try.func19 rfl rfl rfl (by simp) ?_
  repeat' (first | with_reducible refine OutOK.done ?_ | refine thenQ_n ?_ | refine thenQ_r ?_ | refine thenQ_e ?_ | refine AW.seq ?_ | refine AW.reg tok (by simp [*]; rfl) ?_ | refine AW.ifB (by simp [*]; rfl) ?_ | refine IfG.t ?_ | refine IfG.f ?_ | (refine IfG.p (fun hg => ?_) (fun hg => ?_) <;> (try (have hg' := hg; simp at hg'))) | (refine IfG.n (fun hg => ?_) (fun hg => ?_) <;> (try (have hg' := hg; simp at hg'))) | (refine OutOK.gateP (fun hg => ?_) (fun hg => ?_) <;> (try (have hg' := hg; simp at hg'))) | (refine OutOK.gateN (fun hg => ?_) (fun hg => ?_) <;> (try (have hg' := hg; simp at hg'))) | (refine IfG.g (fun hg => ?_) (fun hg => ?_) <;> (try (have hg' := hg; simp at hg'))) | (refine OutOK.gate (fun hg => ?_) (fun hg => ?_) <;> (try (have hg' := hg; simp at hg'))) | (refine OutOK.callF [] (by simp [*]; rfl) (by simp [*]; rfl) (by simp [*]; rfl) hb40 (by apply c_laws_eqIntS <;> first | assumption | exact Hd.out (by assumption) | ((try (clear e0)); (try (clear e1)); (try (clear e2)); (try (clear e3)); (try (clear e4)); (try (clear e5)); (try (clear e6)); (try (clear e7)); (try (clear e8)); (try (clear e9)); (try (clear e10)); (try (clear e11)); omega)) ⟨by simp [*], by simp [*], by simp [*], by simp [*], by simp [*]⟩ (by simp [*]) (by simp [*]; rfl) ?_) | refine OutOK.run (by simp [*]; rfl) ?_ | refine AW.ret ?_ | refine AW.skip ?_ | refine AW.exit ?_ | refine fin_r ?_ | refine fin_n ?_ | refine AW.block ?_ | refine blockQ_n ?_ | refine blockQ_r ?_ | refine blockQ_e ?_ | refine blockQ_o rfl ?_)
  all_goals (try simp [*, Try.f19])
theorem all_no {α : Type} {p : α → Bool} {xs : List α} {i : Nat} (h : i < xs.length) (hp : p xs[i] = false) : xs.all p = false := by
  rw [Bool.eq_false_iff]
  intro ha
  have := List.all_eq_true.1 ha xs[i] (List.getElem_mem h)
  rw [hp] at this; cases this
theorem all_more {α : Type} {p : α → Bool} {xs : List α} {i : Nat} (h : i < xs.length) (hs : (xs.take i).all p = true) (hp : p xs[i] = true) : (xs.take (i + 1)).all p = true := by
  rw [List.take_succ_eq_append_getElem h, List.all_append, hs]
  simp [hp]
theorem all_end {α : Type} {p : α → Bool} {xs : List α} {i : Nat} (h : xs.length ≤ i) (hs : (xs.take i).all p = true) : xs.all p = true := by
  rwa [List.take_of_length_le h] at hs
def good (w d : Int) (cs : List Int) : Bool := inR 2 8 w && inR 2 8 d && decide ((cs.length : Int) = w * d) && cs.all (inR 0 10000)
theorem area {w d : Int} (hw : inR 2 8 w = true) (hd : inR 2 8 d = true) : RowKit.wrap64 (w * d) = w * d ∧ 0 ≤ w * d ∧ w * d ≤ 64 := by
  have h1 := inR_iff.1 hw
  have h2 := inR_iff.1 hd
  have a : 0 ≤ w * d := Int.mul_nonneg (by omega) (by omega)
  have b : w * d ≤ 8 * 8 := Int.mul_le_mul (by omega) (by omega) (by omega) (by omega)
  exact ⟨w64 (by omega) (by omega), a, by omega⟩
theorem c_spec_l19Good (w d : Int) (cs : List Int) (h : cs.length < 9223372036854775807) : ACall Try.prog 54 [surf w d cs] [.x] [boo (good w d cs)] := by
  refine ACall.of (N := 39) tok Try.func54 rfl rfl rfl (by simp) ?_
  repeat' (first | with_reducible refine OutOK.done ?_ | refine thenQ_n ?_ | refine thenQ_r ?_ | refine thenQ_e ?_ | refine AW.seq ?_ | refine AW.reg tok (by simp [*]; rfl) ?_ | refine AW.ifB (by simp [*]; rfl) ?_ | refine IfG.t ?_ | refine IfG.f ?_ | (refine IfG.p (fun hg => ?_) (fun hg => ?_) <;> (try (have hg' := hg; simp at hg'))) | (refine IfG.n (fun hg => ?_) (fun hg => ?_) <;> (try (have hg' := hg; simp at hg'))) | (refine OutOK.gateP (fun hg => ?_) (fun hg => ?_) <;> (try (have hg' := hg; simp at hg'))) | (refine OutOK.gateN (fun hg => ?_) (fun hg => ?_) <;> (try (have hg' := hg; simp at hg'))) | (refine IfG.g (fun hg => ?_) (fun hg => ?_) <;> (try (have hg' := hg; simp at hg'))) | (refine OutOK.gate (fun hg => ?_) (fun hg => ?_) <;> (try (have hg' := hg; simp at hg'))) | (refine OutOK.callF [] (by simp [*]; rfl) (by simp [*]; rfl) (by simp [*]; rfl) hb61 (by apply c_spec_l1In <;> first | assumption | exact Hd.out (by assumption) | ((try (clear e0)); (try (clear e1)); (try (clear e2)); (try (clear e3)); (try (clear e4)); (try (clear e5)); (try (clear e6)); (try (clear e7)); (try (clear e8)); (try (clear e9)); (try (clear e10)); (try (clear e11)); omega)) ⟨by simp [*], by simp [*], by simp [*], by simp [*], by simp [*]⟩ (by simp [*]) (by simp [*]; rfl) ?_) | refine OutOK.run (by simp [*]; rfl) ?_ | refine AW.ret ?_ | refine AW.skip ?_ | refine AW.exit ?_ | refine fin_r ?_ | refine fin_n ?_ | refine AW.block ?_ | refine blockQ_n ?_ | refine blockQ_r ?_ | refine blockQ_e ?_ | refine blockQ_o rfl ?_)
  · rename_i h1 h2
    have h3' : ¬ (cs.length : Int) = w * d := by rw [← (area h1 h2).1]; exact hg
    simp [Try.f54, good, h1, h2, h3']
  · rename_i h1 h2
    have h3' : (cs.length : Int) = w * d := by rw [← (area h1 h2).1]; exact hg
    refine AW.loopL (fun i => i ≤ cs.length ∧ (cs.take i).all (inR 0 10000) = true) (fun i => [(1, .pt 1000 [] 0), (2, .c (.sc (.bool false))), (3, .c (.sc (.int .i64 (i : Int))))]) (fun i => [(1000, .bx [.sc (.int .i64 w), .sc (.int .i64 d), .sl true 1 (ints cs)])]) (fun i => cs.length - i) 0 ⟨Nat.zero_le _, by simp⟩ ⟨by simp, by simp, by simp⟩ ?_
    rintro i ⟨hi, hs⟩
    have hgd : good w d cs = cs.all (inR 0 10000) := by simp [good, h1, h2, h3']
    clear hg h1 h2 h3'
    repeat' (first | with_reducible refine OutOK.done ?_ | refine thenQ_n ?_ | refine thenQ_r ?_ | refine thenQ_e ?_ | refine AW.seq ?_ | refine AW.reg tok (by simp [*]; rfl) ?_ | refine AW.ifB (by simp [*]; rfl) ?_ | refine IfG.t ?_ | refine IfG.f ?_ | (refine IfG.p (fun hg => ?_) (fun hg => ?_) <;> (try (have hg' := hg; simp at hg'))) | (refine IfG.n (fun hg => ?_) (fun hg => ?_) <;> (try (have hg' := hg; simp at hg'))) | (refine OutOK.gateP (fun hg => ?_) (fun hg => ?_) <;> (try (have hg' := hg; simp at hg'))) | (refine OutOK.gateN (fun hg => ?_) (fun hg => ?_) <;> (try (have hg' := hg; simp at hg'))) | (refine IfG.g (fun hg => ?_) (fun hg => ?_) <;> (try (have hg' := hg; simp at hg'))) | (refine OutOK.gate (fun hg => ?_) (fun hg => ?_) <;> (try (have hg' := hg; simp at hg'))) | (refine OutOK.callF [] (by simp [*]; rfl) (by simp [*]; rfl) (by simp [*]; rfl) hb61 (by apply c_spec_l1In <;> first | assumption | exact Hd.out (by assumption) | ((try (clear e0)); (try (clear e1)); (try (clear e2)); (try (clear e3)); (try (clear e4)); (try (clear e5)); (try (clear e6)); (try (clear e7)); (try (clear e8)); (try (clear e9)); (try (clear e10)); (try (clear e11)); omega)) ⟨by simp [*], by simp [*], by simp [*], by simp [*], by simp [*]⟩ (by simp [*]) (by simp [*]; rfl) ?_) | refine OutOK.run (by simp [*]; rfl) ?_ | refine AW.ret ?_ | refine AW.skip ?_ | refine AW.exit ?_ | refine fin_r ?_ | refine fin_n ?_ | refine AW.block ?_ | refine blockQ_n ?_ | refine blockQ_r ?_ | refine blockQ_e ?_ | refine blockQ_o rfl ?_)
    · rename_i h1
      simp [Try.f54, hgd, all_no h1 hg']
    · rename_i h1
      refine ⟨i + 1, ⟨h1, all_more h1 hs hg'⟩, ⟨?_, by simp, by simp⟩, by omega⟩
      simp
      rw [w64 (by omega) (by omega)]
    · simp [Try.f54, hgd, all_end hg' hs]
  · rename_i h1
    simp [Try.f54, good, h1, hg]
  · simp [Try.f54, good, hg]
def idx {α : Type} (p : α → Bool) (xs : List α) : Int := ((xs.findIdx? p).map Int.ofNat).getD (-1)
theorem idx_at {α : Type} {p : α → Bool} {xs : List α} {i : Nat} (h : i < xs.length) (hs : (xs.take i).any p = false) (hp : p xs[i] = true) : idx p xs = i := by
  have : xs.findIdx? p = some i := by
    rw [List.findIdx?_eq_some_iff_getElem]
    refine ⟨h, hp, fun j hj => ?_⟩
    rw [Bool.eq_false_iff] at hs
    intro hc
    exact hs (List.any_eq_true.2 ⟨xs[j], List.mem_take_iff_getElem.2 ⟨j, by omega, rfl⟩, hc⟩)
  simp [idx, this]
theorem idx_none {α : Type} {p : α → Bool} {xs : List α} (hs : xs.any p = false) : idx p xs = -1 := by
  have : xs.findIdx? p = none := by
    rw [List.findIdx?_eq_none_iff]
    intro x hx
    rw [Bool.eq_false_iff] at hs ⊢
    exact fun hc => hs (List.any_eq_true.2 ⟨x, hx, hc⟩)
  simp [idx, this]
theorem idx_any {α : Type} {p : α → Bool} {xs : List α} : decide (0 ≤ idx p xs) = xs.any p := by
  cases h : xs.any p with
  | false => rw [idx_none h]; rfl
  | true =>
    obtain ⟨x, hx, hp⟩ := List.any_eq_true.1 h
    obtain ⟨i, hi⟩ := Option.isSome_iff_exists.1 (List.findIdx?_isSome ▸ h : (xs.findIdx? p).isSome = true)
    simp [idx, hi]
theorem any_more {α : Type} {p : α → Bool} {xs : List α} {i : Nat} (h : i < xs.length) (hs : (xs.take i).any p = false) (hp : p xs[i] = false) : (xs.take (i + 1)).any p = false := by
  rw [List.take_succ_eq_append_getElem h, List.any_append, hs]
  simp [hp]
theorem any_end {α : Type} {p : α → Bool} {xs : List α} {i : Nat} (h : xs.length ≤ i) (hs : (xs.take i).any p = false) : xs.any p = false := by
  rwa [List.take_of_length_le h] at hs
theorem c_slices_IndexFunc_int_int (xs : List Int) (f : Nat) (p : Int → Bool) (h : xs.length < 9223372036854775807) (hbf : HasBody Try.prog f) (cf : ∀ n : Int, ACall Try.prog f [int n] [.x] [boo (p n)]) : ACall Try.prog 85 [.v (.sl true 1 (ints xs)), .f f []] [.x, .x] [int (idx p xs)] := by
  refine ACall.of (N := 19) tok Try.func85 rfl rfl rfl (by simp) ?_
  repeat' (first | with_reducible refine OutOK.done ?_ | refine thenQ_n ?_ | refine thenQ_r ?_ | refine thenQ_e ?_ | refine AW.seq ?_ | refine AW.reg tok (by simp [*]; rfl) ?_ | refine AW.ifB (by simp [*]; rfl) ?_ | refine IfG.t ?_ | refine IfG.f ?_ | (refine IfG.p (fun hg => ?_) (fun hg => ?_) <;> (try (have hg' := hg; simp at hg'))) | (refine IfG.n (fun hg => ?_) (fun hg => ?_) <;> (try (have hg' := hg; simp at hg'))) | (refine OutOK.gateP (fun hg => ?_) (fun hg => ?_) <;> (try (have hg' := hg; simp at hg'))) | (refine OutOK.gateN (fun hg => ?_) (fun hg => ?_) <;> (try (have hg' := hg; simp at hg'))) | (refine IfG.g (fun hg => ?_) (fun hg => ?_) <;> (try (have hg' := hg; simp at hg'))) | (refine OutOK.gate (fun hg => ?_) (fun hg => ?_) <;> (try (have hg' := hg; simp at hg'))) | refine OutOK.run (by simp [*]; rfl) ?_ | refine AW.ret ?_ | refine AW.skip ?_ | refine AW.exit ?_ | refine fin_r ?_ | refine fin_n ?_ | refine AW.block ?_ | refine blockQ_n ?_ | refine blockQ_r ?_ | refine blockQ_e ?_ | refine blockQ_o rfl ?_)
  refine AW.loopL (fun i => i ≤ xs.length ∧ (xs.take i).any p = false) (fun i => [(0, .c (.sl true 1 (ints xs))), (1, .fn f []), (7, .c (.sc (.int .i64 (xs.length : Int)))), (8, .c (.sc (.int .i64 (i : Int))))]) (fun _ => []) (fun i => xs.length - i) 0 ⟨Nat.zero_le _, by simp⟩ ⟨by simp, by simp, by simp⟩ ?_
  rintro i ⟨hi, hs⟩
  repeat' (first | with_reducible refine OutOK.done ?_ | refine thenQ_n ?_ | refine thenQ_r ?_ | refine thenQ_e ?_ | refine AW.seq ?_ | refine AW.reg tok (by simp [*]; rfl) ?_ | refine AW.ifB (by simp [*]; rfl) ?_ | refine IfG.t ?_ | refine IfG.f ?_ | (refine IfG.p (fun hg => ?_) (fun hg => ?_) <;> (try (have hg' := hg; simp at hg'))) | (refine IfG.n (fun hg => ?_) (fun hg => ?_) <;> (try (have hg' := hg; simp at hg'))) | (refine OutOK.gateP (fun hg => ?_) (fun hg => ?_) <;> (try (have hg' := hg; simp at hg'))) | (refine OutOK.gateN (fun hg => ?_) (fun hg => ?_) <;> (try (have hg' := hg; simp at hg'))) | (refine IfG.g (fun hg => ?_) (fun hg => ?_) <;> (try (have hg' := hg; simp at hg'))) | (refine OutOK.gate (fun hg => ?_) (fun hg => ?_) <;> (try (have hg' := hg; simp at hg'))) | (refine OutOK.callF [] (by simp [*]; rfl) (by simp [*]; rfl) (by simp [*]; rfl) hbf (by apply cf <;> first | assumption | exact Hd.out (by assumption) | ((try (clear e0)); (try (clear e1)); (try (clear e2)); (try (clear e3)); (try (clear e4)); (try (clear e5)); (try (clear e6)); (try (clear e7)); (try (clear e8)); (try (clear e9)); (try (clear e10)); (try (clear e11)); omega)) ⟨by simp [*], by simp [*], by simp [*], by simp [*], by simp [*]⟩ (by simp [*]) (by simp [*]; rfl) ?_) | refine OutOK.run (by simp [*]; rfl) ?_ | refine AW.ret ?_ | refine AW.skip ?_ | refine AW.exit ?_ | refine fin_r ?_ | refine fin_n ?_ | refine AW.block ?_ | refine blockQ_n ?_ | refine blockQ_r ?_ | refine blockQ_e ?_ | refine blockQ_o rfl ?_)
  · rename_i h1
    simp [Try.f85, idx_at h1 hs hg]
  · rename_i h1
    refine ⟨i + 1, ⟨h1, any_more h1 hs hg⟩, ⟨?_, by simp, by simp⟩, by omega⟩
    simp
    rw [w64 (by omega) (by omega)]
  · simp [Try.f85, idx_none (any_end hg' hs)]
theorem c_slices_ContainsFunc_int_int (xs : List Int) (f : Nat) (p : Int → Bool) (h : xs.length < 9223372036854775807) (hbf : HasBody Try.prog f) (cf : ∀ n : Int, ACall Try.prog f [int n] [.x] [boo (p n)]) : ACall Try.prog 57 [.v (.sl true 1 (ints xs)), .f f []] [.x, .x] [boo (xs.any p)] := by
  refine ACall.of (N := 9) tok Try.func57 rfl rfl rfl (by simp) ?_
  repeat' (first | with_reducible refine OutOK.done ?_ | refine thenQ_n ?_ | refine thenQ_r ?_ | refine thenQ_e ?_ | refine AW.seq ?_ | refine AW.reg tok (by simp [*]; rfl) ?_ | refine AW.ifB (by simp [*]; rfl) ?_ | refine IfG.t ?_ | refine IfG.f ?_ | (refine IfG.p (fun hg => ?_) (fun hg => ?_) <;> (try (have hg' := hg; simp at hg'))) | (refine IfG.n (fun hg => ?_) (fun hg => ?_) <;> (try (have hg' := hg; simp at hg'))) | (refine OutOK.gateP (fun hg => ?_) (fun hg => ?_) <;> (try (have hg' := hg; simp at hg'))) | (refine OutOK.gateN (fun hg => ?_) (fun hg => ?_) <;> (try (have hg' := hg; simp at hg'))) | (refine IfG.g (fun hg => ?_) (fun hg => ?_) <;> (try (have hg' := hg; simp at hg'))) | (refine OutOK.gate (fun hg => ?_) (fun hg => ?_) <;> (try (have hg' := hg; simp at hg'))) | (refine OutOK.callF [] (by simp [*]; rfl) (by simp [*]; rfl) (by simp [*]; rfl) hb85 (by apply c_slices_IndexFunc_int_int <;> first | assumption | exact Hd.out (by assumption) | ((try (clear e0)); (try (clear e1)); (try (clear e2)); (try (clear e3)); (try (clear e4)); (try (clear e5)); (try (clear e6)); (try (clear e7)); (try (clear e8)); (try (clear e9)); (try (clear e10)); (try (clear e11)); omega)) ⟨by simp [*], by simp [*], by simp [*], by simp [*], by simp [*]⟩ (by simp [*]) (by simp [*]; rfl) ?_) | refine OutOK.run (by simp [*]; rfl) ?_ | refine AW.ret ?_ | refine AW.skip ?_ | refine AW.exit ?_ | refine fin_r ?_ | refine fin_n ?_ | refine AW.block ?_ | refine blockQ_n ?_ | refine blockQ_r ?_ | refine blockQ_e ?_ | refine blockQ_o rfl ?_)
  simp [Try.f57, idx_any]
theorem c_impl_IsValidSurface (w d : Int) (cs : List Int) (h : cs.length < 9223372036854775807) : ACall Try.prog 18 [surf w d cs] [.x] [boo (good w d cs)] := by
  have c_slices_ContainsFunc_int_int' : ACall Try.prog 57 [.v (.sl true 1 (ints cs)), .f 58 []] [.x, .x] [boo (cs.any fun n => !inR 0 10000 n)] := c_slices_ContainsFunc_int_int cs 58 _ h hb58 c_impl_IsValidSurface_1
  refine ACall.of (N := 28) tok Try.func18 rfl rfl rfl (by simp) ?_
  repeat' (first | with_reducible refine OutOK.done ?_ | refine thenQ_n ?_ | refine thenQ_r ?_ | refine thenQ_e ?_ | refine AW.seq ?_ | refine AW.reg tok (by simp [*]; rfl) ?_ | refine AW.ifB (by simp [*]; rfl) ?_ | refine IfG.t ?_ | refine IfG.f ?_ | (refine IfG.p (fun hg => ?_) (fun hg => ?_) <;> (try (have hg' := hg; simp at hg'))) | (refine IfG.n (fun hg => ?_) (fun hg => ?_) <;> (try (have hg' := hg; simp at hg'))) | (refine OutOK.gateP (fun hg => ?_) (fun hg => ?_) <;> (try (have hg' := hg; simp at hg'))) | (refine OutOK.gateN (fun hg => ?_) (fun hg => ?_) <;> (try (have hg' := hg; simp at hg'))) | (refine IfG.g (fun hg => ?_) (fun hg => ?_) <;> (try (have hg' := hg; simp at hg'))) | (refine OutOK.gate (fun hg => ?_) (fun hg => ?_) <;> (try (have hg' := hg; simp at hg'))) | (refine OutOK.callF [] (by simp [*]; rfl) (by simp [*]; rfl) (by simp [*]; rfl) hb56 (by apply c_impl_within <;> first | assumption | exact Hd.out (by assumption) | ((try (clear e0)); (try (clear e1)); (try (clear e2)); (try (clear e3)); (try (clear e4)); (try (clear e5)); (try (clear e6)); (try (clear e7)); (try (clear e8)); (try (clear e9)); (try (clear e10)); (try (clear e11)); omega)) ⟨by simp [*], by simp [*], by simp [*], by simp [*], by simp [*]⟩ (by simp [*]) (by simp [*]; rfl) ?_) | (refine OutOK.callF [] (by simp [*]; rfl) (by simp [*]; rfl) (by simp [*]; rfl) hb57 (by apply c_slices_ContainsFunc_int_int' <;> first | assumption | exact Hd.out (by assumption) | ((try (clear e0)); (try (clear e1)); (try (clear e2)); (try (clear e3)); (try (clear e4)); (try (clear e5)); (try (clear e6)); (try (clear e7)); (try (clear e8)); (try (clear e9)); (try (clear e10)); (try (clear e11)); omega)) ⟨by simp [*], by simp [*], by simp [*], by simp [*], by simp [*]⟩ (by simp [*]) (by simp [*]; rfl) ?_) | refine OutOK.run (by simp [*]; rfl) ?_ | refine AW.ret ?_ | refine AW.skip ?_ | refine AW.exit ?_ | refine fin_r ?_ | refine fin_n ?_ | refine AW.block ?_ | refine blockQ_n ?_ | refine blockQ_r ?_ | refine blockQ_e ?_ | refine blockQ_o rfl ?_)
  · rename_i h1 h2
    have h3' : (cs.length : Int) = w * d := by rw [← (area h1 h2).1]; exact hg
    simp [Try.f18, good, h1, h2, h3', List.any_eq_not_all_not]
  · rename_i h1 h2
    have h3' : ¬ (cs.length : Int) = w * d := by rw [← (area h1 h2).1]; exact hg
    simp [Try.f18, good, h1, h2, h3']
  · rename_i h1
    simp [Try.f18, good, h1, hg]
  · simp [Try.f18, good, hg]
end Go.Proofs.Ytgojidjfidldbaa.EngS


set_option linter.unusedSimpArgs false
set_option linter.unusedVariables false
namespace Go.Proofs.Ytgojidjfidldbaa.EngS
open Go Go.Proofs Go.Eng Go.RowKit
structure CellEq (w y x n n1 m m1 : Nat) : Prop where
  e1 : n = y * w + x
  e2 : n1 = n + 1
  e3 : m = n + w
  e4 : m1 = n + w + 1
end Go.Proofs.Ytgojidjfidldbaa.EngS


set_option linter.unusedSimpArgs false
set_option linter.unusedVariables false
namespace Go.Proofs.Ytgojidjfidldbaa.EngS
open Go Go.Proofs Go.Eng Go.RowKit
end Go.Proofs.Ytgojidjfidldbaa.EngS


set_option linter.unusedSimpArgs false
set_option linter.unusedVariables false
namespace Go.Proofs.Ytgojidjfidldbaa.EngS
open Go Go.Proofs Go.Eng Go.RowKit
end Go.Proofs.Ytgojidjfidldbaa.EngS
namespace Go.Proofs.Ytgojidjfidldbaa.EngS
open Go Go.Proofs Go.Eng Go.RowKit
end Go.Proofs.Ytgojidjfidldbaa.EngS


set_option linter.unusedSimpArgs false
set_option linter.unusedVariables false
namespace Go.Proofs.Ytgojidjfidldbaa.EngS
open Go Go.Proofs Go.Eng Go.RowKit
theorem c_slices_Clone_int_int (xs : List Int) (h : xs.length ≤ 1048576) : ACall Try.prog 67 [.v (.sl true 1 (ints xs))] [.x] [.v (.sl false 1 (ints xs))] := by
  have h1 : (xs.length : Int) * 8 ≤ 140737488355328 := by omega
  have h2 : (xs.length : Int) ≤ 4611686018427387904 := by omega
  have h3 : xs.length * 8 ≤ 140737488355328 := by omega
  have h4 : xs.length ≤ 4611686018427387904 := by omega
  refine ACall.of (N := 8) tok Try.func67 rfl rfl rfl (by simp) ?_
  repeat' (first | with_reducible refine OutOK.done ?_ | refine thenQ_n ?_ | refine thenQ_r ?_ | refine thenQ_e ?_ | refine AW.seq ?_ | (refine AW.isNil tok rfl rfl rfl (by simp [*]; rfl) (by simp [*]; done) (by decide) ?_; intro hb hc; cases hb <;> simp at hc) | refine AW.reg tok (by simp [*]; rfl) ?_ | refine AW.ifB (by simp [*]; rfl) ?_ | refine IfG.t ?_ | refine IfG.f ?_ | (refine IfG.p (fun hg => ?_) (fun hg => ?_) <;> (try (have hg' := hg; simp at hg'))) | (refine IfG.n (fun hg => ?_) (fun hg => ?_) <;> (try (have hg' := hg; simp at hg'))) | (refine OutOK.gateP (fun hg => ?_) (fun hg => ?_) <;> (try (have hg' := hg; simp at hg'))) | (refine OutOK.gateN (fun hg => ?_) (fun hg => ?_) <;> (try (have hg' := hg; simp at hg'))) | (refine IfG.g (fun hg => ?_) (fun hg => ?_) <;> (try (have hg' := hg; simp at hg'))) | (refine OutOK.gate (fun hg => ?_) (fun hg => ?_) <;> (try (have hg' := hg; simp at hg'))) | refine OutOK.run (by simp [*]; rfl) ?_ | refine AW.ret ?_ | refine AW.skip ?_ | refine AW.exit ?_ | refine fin_r ?_ | refine fin_n ?_ | refine AW.block ?_ | refine blockQ_n ?_ | refine blockQ_r ?_ | refine blockQ_e ?_ | refine blockQ_o rfl ?_)
  all_goals (try simp [*, Try.f67])
theorem c_spec_l1Most (a b : Int) : ACall Try.prog 66 [int a, int b] [.x, .x] [int (max a b)] := by
  refine ACall.of (N := 10) tok Try.func66 rfl rfl rfl (by simp) ?_
  repeat' (first | with_reducible refine OutOK.done ?_ | refine thenQ_n ?_ | refine thenQ_r ?_ | refine thenQ_e ?_ | refine AW.seq ?_ | refine AW.reg tok (by simp [*]; rfl) ?_ | refine AW.ifB (by simp [*]; rfl) ?_ | refine IfG.t ?_ | refine IfG.f ?_ | (refine IfG.p (fun hg => ?_) (fun hg => ?_) <;> (try (have hg' := hg; simp at hg'))) | (refine IfG.n (fun hg => ?_) (fun hg => ?_) <;> (try (have hg' := hg; simp at hg'))) | (refine OutOK.gateP (fun hg => ?_) (fun hg => ?_) <;> (try (have hg' := hg; simp at hg'))) | (refine OutOK.gateN (fun hg => ?_) (fun hg => ?_) <;> (try (have hg' := hg; simp at hg'))) | (refine IfG.g (fun hg => ?_) (fun hg => ?_) <;> (try (have hg' := hg; simp at hg'))) | (refine OutOK.gate (fun hg => ?_) (fun hg => ?_) <;> (try (have hg' := hg; simp at hg'))) | refine OutOK.run (by simp [*]; rfl) ?_ | refine AW.ret ?_ | refine AW.skip ?_ | refine AW.exit ?_ | refine fin_r ?_ | refine fin_n ?_ | refine AW.block ?_ | refine blockQ_n ?_ | refine blockQ_r ?_ | refine blockQ_e ?_ | refine blockQ_o rfl ?_)
  · have : max a b = a := by omega
    simp [Try.f66, this]
  · have : max a b = b := by omega
    simp [Try.f66, this]
def upTo (k : Int) (n : Nat) : List Int := (List.range n).map fun i : Nat => k + (i : Int)
@[simp] theorem upTo_len (k n) : (upTo k n).length = n := by simp [upTo]
@[simp] theorem upTo_at (k n i) (h : i < (upTo k n).length) : (upTo k n)[i] = k + i := by simp [upTo]
def marked (k : Int) (xs : List Int) (i : Nat) : List Int := (List.range xs.length).map fun j => if j < i then k + j else xs[j]?.getD 0
@[simp] theorem marked_len (k xs i) : (marked k xs i).length = xs.length := by simp [marked]
theorem marked_zero (k xs) : marked k xs 0 = xs := by
  apply List.ext_getElem
  · simp
  · intro j h1 h2; simp [marked, h2]
theorem marked_all (k xs) : marked k xs xs.length = upTo k xs.length := by
  apply List.ext_getElem
  · simp
  · intro j h1 h2; simp at h1; simp [marked, upTo, h1]
theorem marked_step (k xs i) (h : i < xs.length) : (marked k xs i).set i (k + i) = marked k xs (i + 1) := by
  apply List.ext_getElem
  · simp
  · intro j h1 h2
    simp at h1
    rw [List.getElem_set]
    split
    · rename_i e; subst e; simp [marked]
    · rename_i e
      simp only [marked, List.getElem_map, List.getElem_range]
      by_cases hj : j < i
      · rw [if_pos hj, if_pos (by omega)]
      · rw [if_neg hj, if_neg (by omega)]
theorem c_laws_markIntS (xs : List Int) (k : Int) (h : xs.length ≤ 1048576) (h1 : 0 ≤ k) (h2 : k ≤ 1000000000000) : ACall Try.prog 41 [.v (.sl false 1 (ints xs)), int k] [.v (.sl false 1 (ints (upTo k xs.length))), .x] [int (k + xs.length)] := by
  refine ACall.of (N := 19) tok Try.func41 rfl rfl rfl (by simp) ?_
  repeat' (first | with_reducible refine OutOK.done ?_ | refine thenQ_n ?_ | refine thenQ_r ?_ | refine thenQ_e ?_ | refine AW.seq ?_ | refine AW.reg tok (by simp [*]; rfl) ?_ | refine AW.ifB (by simp [*]; rfl) ?_ | refine IfG.t ?_ | refine IfG.f ?_ | (refine IfG.p (fun hg => ?_) (fun hg => ?_) <;> (try (have hg' := hg; simp at hg'))) | (refine IfG.n (fun hg => ?_) (fun hg => ?_) <;> (try (have hg' := hg; simp at hg'))) | (refine OutOK.gateP (fun hg => ?_) (fun hg => ?_) <;> (try (have hg' := hg; simp at hg'))) | (refine OutOK.gateN (fun hg => ?_) (fun hg => ?_) <;> (try (have hg' := hg; simp at hg'))) | (refine IfG.g (fun hg => ?_) (fun hg => ?_) <;> (try (have hg' := hg; simp at hg'))) | (refine OutOK.gate (fun hg => ?_) (fun hg => ?_) <;> (try (have hg' := hg; simp at hg'))) | refine OutOK.run (by simp [*]; rfl) ?_ | refine AW.ret ?_ | refine AW.skip ?_ | refine AW.exit ?_ | refine fin_r ?_ | refine fin_n ?_ | refine AW.block ?_ | refine blockQ_n ?_ | refine blockQ_r ?_ | refine blockQ_e ?_ | refine blockQ_o rfl ?_)
  refine AW.loopL (fun i => i ≤ xs.length) (fun i => [(0, .rf 100000000 []), (1, .c (.sc (.int .i64 (k + (i : Int))))), (5, .c (.sc (.int .i64 (i : Int))))]) (fun i => [(100000000, .sv (.sl false 1 (ints (marked k xs i))))]) (fun i => xs.length - i) 0 (Nat.zero_le _) ⟨by simp, by simp [marked_zero], by simp⟩ ?_
  intro i hi
  rcases Nat.lt_or_ge i xs.length with hl | hl
  · have e1 : wrap64 ((i : Int) + 1) = (i : Int) + 1 := w64 (by omega) (by omega)
    have e2 : wrap64 (k + (i : Int) + 1) = k + (i : Int) + 1 := w64 (by clear e1; omega) (by clear e1; omega)
    repeat' (first | with_reducible refine OutOK.done ?_ | refine thenQ_n ?_ | refine thenQ_r ?_ | refine thenQ_e ?_ | refine AW.seq ?_ | refine AW.reg tok (by simp [*]; rfl) ?_ | refine AW.ifB (by simp [*]; rfl) ?_ | refine IfG.t ?_ | refine IfG.f ?_ | (refine IfG.p (fun hg => ?_) (fun hg => ?_) <;> (try (have hg' := hg; simp at hg'))) | (refine IfG.n (fun hg => ?_) (fun hg => ?_) <;> (try (have hg' := hg; simp at hg'))) | (refine OutOK.gateP (fun hg => ?_) (fun hg => ?_) <;> (try (have hg' := hg; simp at hg'))) | (refine OutOK.gateN (fun hg => ?_) (fun hg => ?_) <;> (try (have hg' := hg; simp at hg'))) | (refine IfG.g (fun hg => ?_) (fun hg => ?_) <;> (try (have hg' := hg; simp at hg'))) | (refine OutOK.gate (fun hg => ?_) (fun hg => ?_) <;> (try (have hg' := hg; simp at hg'))) | refine OutOK.run (by simp [*]; rfl) ?_ | refine AW.ret ?_ | refine AW.skip ?_ | refine AW.exit ?_ | refine fin_r ?_ | refine fin_n ?_ | refine AW.block ?_ | refine blockQ_n ?_ | refine blockQ_r ?_ | refine blockQ_e ?_ | refine blockQ_o rfl ?_)
    refine ⟨i + 1, by omega, ⟨?_, ?_, by simp⟩, by clear e1 e2; omega⟩
    · simp [e1, e2]; omega
    · simp [marked_step _ _ _ hl]
  · have hx : i = xs.length := by omega
    subst hx
    repeat' (first | with_reducible refine OutOK.done ?_ | refine thenQ_n ?_ | refine thenQ_r ?_ | refine thenQ_e ?_ | refine AW.seq ?_ | refine AW.reg tok (by simp [*]; rfl) ?_ | refine AW.ifB (by simp [*]; rfl) ?_ | refine IfG.t ?_ | refine IfG.f ?_ | (refine IfG.p (fun hg => ?_) (fun hg => ?_) <;> (try (have hg' := hg; simp at hg'))) | (refine IfG.n (fun hg => ?_) (fun hg => ?_) <;> (try (have hg' := hg; simp at hg'))) | (refine OutOK.gateP (fun hg => ?_) (fun hg => ?_) <;> (try (have hg' := hg; simp at hg'))) | (refine OutOK.gateN (fun hg => ?_) (fun hg => ?_) <;> (try (have hg' := hg; simp at hg'))) | (refine IfG.g (fun hg => ?_) (fun hg => ?_) <;> (try (have hg' := hg; simp at hg'))) | (refine OutOK.gate (fun hg => ?_) (fun hg => ?_) <;> (try (have hg' := hg; simp at hg'))) | refine OutOK.run (by simp [*]; rfl) ?_ | refine AW.ret ?_ | refine AW.skip ?_ | refine AW.exit ?_ | refine fin_r ?_ | refine fin_n ?_ | refine AW.block ?_ | refine blockQ_n ?_ | refine blockQ_r ?_ | refine blockQ_e ?_ | refine blockQ_o rfl ?_)
    simp [Try.f41, marked_all]
theorem c_laws_heldIntS (n : Nat) (k : Int) (h : n ≤ 1048576) (h1 : 0 ≤ k) (h2 : k ≤ 1000000000000) : ACall Try.prog 42 [.v (.sl true 1 (ints (upTo k n))), int k] [.x, .x] [int (k + n)] := by
  refine ACall.of (N := 21) tok Try.func42 rfl rfl rfl (by simp) ?_
  repeat' (first | with_reducible refine OutOK.done ?_ | refine thenQ_n ?_ | refine thenQ_r ?_ | refine thenQ_e ?_ | refine AW.seq ?_ | refine AW.reg tok (by simp [*]; rfl) ?_ | refine AW.ifB (by simp [*]; rfl) ?_ | refine IfG.t ?_ | refine IfG.f ?_ | (refine IfG.p (fun hg => ?_) (fun hg => ?_) <;> (try (have hg' := hg; simp at hg'))) | (refine IfG.n (fun hg => ?_) (fun hg => ?_) <;> (try (have hg' := hg; simp at hg'))) | (refine OutOK.gateP (fun hg => ?_) (fun hg => ?_) <;> (try (have hg' := hg; simp at hg'))) | (refine OutOK.gateN (fun hg => ?_) (fun hg => ?_) <;> (try (have hg' := hg; simp at hg'))) | (refine IfG.g (fun hg => ?_) (fun hg => ?_) <;> (try (have hg' := hg; simp at hg'))) | (refine OutOK.gate (fun hg => ?_) (fun hg => ?_) <;> (try (have hg' := hg; simp at hg'))) | refine OutOK.run (by simp [*]; rfl) ?_ | refine AW.ret ?_ | refine AW.skip ?_ | refine AW.exit ?_ | refine fin_r ?_ | refine fin_n ?_ | refine AW.block ?_ | refine blockQ_n ?_ | refine blockQ_r ?_ | refine blockQ_e ?_ | refine blockQ_o rfl ?_)
  refine AW.loopL (fun i => i ≤ n) (fun i => [(0, .c (.sl true 1 (ints (upTo k n)))), (1, .c (.sc (.int .i64 (k + (i : Int))))), (5, .c (.sc (.int .i64 (i : Int))))]) (fun i => []) (fun i => n - i) 0 (Nat.zero_le _) ⟨by simp, by simp, by simp⟩ ?_
  intro i hi
  rcases Nat.lt_or_ge i n with hl | hl
  · have e1 : wrap64 ((i : Int) + 1) = (i : Int) + 1 := w64 (by omega) (by omega)
    have e2 : wrap64 (k + (i : Int) + 1) = k + (i : Int) + 1 := w64 (by clear e1; omega) (by clear e1; omega)
    repeat' (first | with_reducible refine OutOK.done ?_ | refine thenQ_n ?_ | refine thenQ_r ?_ | refine thenQ_e ?_ | refine AW.seq ?_ | refine AW.reg tok (by simp [*]; rfl) ?_ | refine AW.ifB (by simp [*]; rfl) ?_ | refine IfG.t ?_ | refine IfG.f ?_ | (refine IfG.p (fun hg => ?_) (fun hg => ?_) <;> (try (have hg' := hg; simp at hg'))) | (refine IfG.n (fun hg => ?_) (fun hg => ?_) <;> (try (have hg' := hg; simp at hg'))) | (refine OutOK.gateP (fun hg => ?_) (fun hg => ?_) <;> (try (have hg' := hg; simp at hg'))) | (refine OutOK.gateN (fun hg => ?_) (fun hg => ?_) <;> (try (have hg' := hg; simp at hg'))) | (refine IfG.g (fun hg => ?_) (fun hg => ?_) <;> (try (have hg' := hg; simp at hg'))) | (refine OutOK.gate (fun hg => ?_) (fun hg => ?_) <;> (try (have hg' := hg; simp at hg'))) | refine OutOK.run (by simp [*]; rfl) ?_ | refine AW.ret ?_ | refine AW.skip ?_ | refine AW.exit ?_ | refine fin_r ?_ | refine fin_n ?_ | refine AW.block ?_ | refine blockQ_n ?_ | refine blockQ_r ?_ | refine blockQ_e ?_ | refine blockQ_o rfl ?_)
    refine ⟨i + 1, by omega, ⟨?_, by simp, by simp⟩, by clear e1 e2; omega⟩
    simp [e1, e2]; omega
  · have hx : i = n := by omega
    subst hx
    repeat' (first | with_reducible refine OutOK.done ?_ | refine thenQ_n ?_ | refine thenQ_r ?_ | refine thenQ_e ?_ | refine AW.seq ?_ | refine AW.reg tok (by simp [*]; rfl) ?_ | refine AW.ifB (by simp [*]; rfl) ?_ | refine IfG.t ?_ | refine IfG.f ?_ | (refine IfG.p (fun hg => ?_) (fun hg => ?_) <;> (try (have hg' := hg; simp at hg'))) | (refine IfG.n (fun hg => ?_) (fun hg => ?_) <;> (try (have hg' := hg; simp at hg'))) | (refine OutOK.gateP (fun hg => ?_) (fun hg => ?_) <;> (try (have hg' := hg; simp at hg'))) | (refine OutOK.gateN (fun hg => ?_) (fun hg => ?_) <;> (try (have hg' := hg; simp at hg'))) | (refine IfG.g (fun hg => ?_) (fun hg => ?_) <;> (try (have hg' := hg; simp at hg'))) | (refine OutOK.gate (fun hg => ?_) (fun hg => ?_) <;> (try (have hg' := hg; simp at hg'))) | refine OutOK.run (by simp [*]; rfl) ?_ | refine AW.ret ?_ | refine AW.skip ?_ | refine AW.exit ?_ | refine fin_r ?_ | refine fin_n ?_ | refine AW.block ?_ | refine blockQ_n ?_ | refine blockQ_r ?_ | refine blockQ_e ?_ | refine blockQ_o rfl ?_)
    all_goals (try simp [*, Try.f42])
end Go.Proofs.Ytgojidjfidldbaa.EngS


set_option linter.unusedSimpArgs false
set_option linter.unusedVariables false
namespace Go.Proofs.Ytgojidjfidldbaa.EngS
open Go Go.Proofs Go.Eng Go.RowKit
def alikeB (w d : Int) (cs : List Int) (w' d' : Int) (cs' : List Int) : Bool := good w d cs && good w' d' cs' && decide (w = w') && decide (d = d')
theorem c_spec_l19Alike (w d : Int) (cs : List Int) (w' d' : Int) (cs' : List Int) (h : cs.length < 9223372036854775807) (h' : cs'.length < 9223372036854775807) : ACall Try.prog 64 [surf w d cs, surf w' d' cs'] [.x, .x] [boo (alikeB w d cs w' d' cs')] := by
  refine ACall.of (N := 25) tok Try.func64 rfl rfl rfl (by simp) ?_
  repeat' (first | with_reducible refine OutOK.done ?_ | refine thenQ_n ?_ | refine thenQ_r ?_ | refine thenQ_e ?_ | refine AW.seq ?_ | refine AW.reg tok (by simp [*]; rfl) ?_ | refine AW.ifB (by simp [*]; rfl) ?_ | refine IfG.t ?_ | refine IfG.f ?_ | (refine IfG.p (fun hg => ?_) (fun hg => ?_) <;> (try (have hg' := hg; simp at hg'))) | (refine IfG.n (fun hg => ?_) (fun hg => ?_) <;> (try (have hg' := hg; simp at hg'))) | (refine OutOK.gateP (fun hg => ?_) (fun hg => ?_) <;> (try (have hg' := hg; simp at hg'))) | (refine OutOK.gateN (fun hg => ?_) (fun hg => ?_) <;> (try (have hg' := hg; simp at hg'))) | (refine IfG.g (fun hg => ?_) (fun hg => ?_) <;> (try (have hg' := hg; simp at hg'))) | (refine OutOK.gate (fun hg => ?_) (fun hg => ?_) <;> (try (have hg' := hg; simp at hg'))) | (refine OutOK.callF [] (by simp [*]; rfl) (by simp [*]; rfl) (by simp [*]; rfl) hb54 (by apply c_spec_l19Good <;> first | assumption | exact Hd.out (by assumption) | ((try (clear e0)); (try (clear e1)); (try (clear e2)); (try (clear e3)); (try (clear e4)); (try (clear e5)); (try (clear e6)); (try (clear e7)); (try (clear e8)); (try (clear e9)); (try (clear e10)); (try (clear e11)); omega)) ⟨by simp [*], by simp [*], by simp [*], by simp [*], by simp [*]⟩ (by simp [*]) (by simp [*]; rfl) ?_) | refine OutOK.run (by simp [*]; rfl) ?_ | refine AW.ret ?_ | refine AW.skip ?_ | refine AW.exit ?_ | refine fin_r ?_ | refine fin_n ?_ | refine AW.block ?_ | refine blockQ_n ?_ | refine blockQ_r ?_ | refine blockQ_e ?_ | refine blockQ_o rfl ?_)
  all_goals (subst_vars; simp [*, Try.f64, alikeB])
theorem c_impl_alike (w d : Int) (cs : List Int) (w' d' : Int) (cs' : List Int) (h : cs.length < 9223372036854775807) (h' : cs'.length < 9223372036854775807) : ACall Try.prog 65 [surf w d cs, surf w' d' cs'] [.x, .x] [boo (alikeB w d cs w' d' cs')] := by
  refine ACall.of (N := 25) tok Try.func65 rfl rfl rfl (by simp) ?_
  repeat' (first | with_reducible refine OutOK.done ?_ | refine thenQ_n ?_ | refine thenQ_r ?_ | refine thenQ_e ?_ | refine AW.seq ?_ | refine AW.reg tok (by simp [*]; rfl) ?_ | refine AW.ifB (by simp [*]; rfl) ?_ | refine IfG.t ?_ | refine IfG.f ?_ | (refine IfG.p (fun hg => ?_) (fun hg => ?_) <;> (try (have hg' := hg; simp at hg'))) | (refine IfG.n (fun hg => ?_) (fun hg => ?_) <;> (try (have hg' := hg; simp at hg'))) | (refine OutOK.gateP (fun hg => ?_) (fun hg => ?_) <;> (try (have hg' := hg; simp at hg'))) | (refine OutOK.gateN (fun hg => ?_) (fun hg => ?_) <;> (try (have hg' := hg; simp at hg'))) | (refine IfG.g (fun hg => ?_) (fun hg => ?_) <;> (try (have hg' := hg; simp at hg'))) | (refine OutOK.gate (fun hg => ?_) (fun hg => ?_) <;> (try (have hg' := hg; simp at hg'))) | (refine OutOK.callF [] (by simp [*]; rfl) (by simp [*]; rfl) (by simp [*]; rfl) hb18 (by apply c_impl_IsValidSurface <;> first | assumption | exact Hd.out (by assumption) | ((try (clear e0)); (try (clear e1)); (try (clear e2)); (try (clear e3)); (try (clear e4)); (try (clear e5)); (try (clear e6)); (try (clear e7)); (try (clear e8)); (try (clear e9)); (try (clear e10)); (try (clear e11)); omega)) ⟨by simp [*], by simp [*], by simp [*], by simp [*], by simp [*]⟩ (by simp [*]) (by simp [*]; rfl) ?_) | refine OutOK.run (by simp [*]; rfl) ?_ | refine AW.ret ?_ | refine AW.skip ?_ | refine AW.exit ?_ | refine fin_r ?_ | refine fin_n ?_ | refine AW.block ?_ | refine blockQ_n ?_ | refine blockQ_r ?_ | refine blockQ_e ?_ | refine blockQ_o rfl ?_)
  all_goals (subst_vars; simp [*, Try.f65, alikeB])
theorem alike_nat {w d : Int} {cs : List Int} {w' d' : Int} {cs' : List Int} (h : alikeB w d cs w' d' cs' = true) : w' = w ∧ d' = d ∧ good w d cs = true ∧ good w d cs' = true ∧ cs'.length = cs.length := by
  simp only [alikeB, Bool.and_eq_true, decide_eq_true_eq] at h
  obtain ⟨⟨⟨h1, h2⟩, rfl⟩, rfl⟩ := h
  refine ⟨rfl, rfl, h1, h2, ?_⟩
  simp only [good, Bool.and_eq_true, decide_eq_true_eq] at h1 h2
  omega
end Go.Proofs.Ytgojidjfidldbaa.EngS


set_option linter.unusedSimpArgs false
set_option linter.unusedVariables false
set_option maxHeartbeats 4000000
set_option maxRecDepth 10000
namespace Go.Proofs.Ytgojidjfidldbaa.EngS
open Go Go.Proofs Go.Eng Go.RowKit
theorem c_laws_markSurface (w d : Int) (xs : List Int) (k : Int) (h : xs.length ≤ 1048576) (h1 : 0 ≤ k) (h2 : k ≤ 1000000000000) : ACall Try.prog 31 [surfO w d xs, int k] [.x, .x] [int (k + xs.length)] := by
  refine ACall.of (N := 10) tok Try.func31 rfl rfl rfl (by simp) ?_
  repeat' (first | with_reducible refine OutOK.done ?_ | refine thenQ_n ?_ | refine thenQ_r ?_ | refine thenQ_e ?_ | refine AW.seq ?_ | refine AW.reg tok (by simp [*]; rfl) ?_ | refine AW.ifB (by simp [*]; rfl) ?_ | refine IfG.t ?_ | refine IfG.f ?_ | (refine IfG.p (fun hg => ?_) (fun hg => ?_) <;> (try (have hg' := hg; simp at hg'))) | (refine IfG.n (fun hg => ?_) (fun hg => ?_) <;> (try (have hg' := hg; simp at hg'))) | (refine OutOK.gateP (fun hg => ?_) (fun hg => ?_) <;> (try (have hg' := hg; simp at hg'))) | (refine OutOK.gateN (fun hg => ?_) (fun hg => ?_) <;> (try (have hg' := hg; simp at hg'))) | (refine IfG.g (fun hg => ?_) (fun hg => ?_) <;> (try (have hg' := hg; simp at hg'))) | (refine OutOK.gate (fun hg => ?_) (fun hg => ?_) <;> (try (have hg' := hg; simp at hg'))) | (refine OutOK.callF [true] (by simp [*]; rfl) (by simp [*]; rfl) (by simp [*]; rfl) hb41 (by apply c_laws_markIntS <;> first | assumption | exact Hd.out (by assumption) | ((try (clear e0)); (try (clear e1)); (try (clear e2)); (try (clear e3)); (try (clear e4)); (try (clear e5)); (try (clear e6)); (try (clear e7)); (try (clear e8)); (try (clear e9)); (try (clear e10)); (try (clear e11)); omega)) ⟨by simp [*], by simp [*], by simp [*], by simp [*], by simp [*]⟩ (by simp [*]) (by simp [*]; rfl) ?_) | refine OutOK.run (by simp [*]; rfl) ?_ | refine AW.ret ?_ | refine AW.skip ?_ | refine AW.exit ?_ | refine fin_r ?_ | refine fin_n ?_ | refine AW.block ?_ | refine blockQ_n ?_ | refine blockQ_r ?_ | refine blockQ_e ?_ | refine blockQ_o rfl ?_)
  all_goals (try simp [*, Try.f31])
def raiL (w d : Int) (cs : List Int) (w' d' : Int) (cs' : List Int) : List Int := if alikeB w d cs w' d' cs' = true then List.zipWith max cs cs' else []
def raiN (w d : Int) (cs : List Int) (w' d' : Int) (cs' : List Int) (n : Int) : Int := if alikeB w d cs w' d' cs' = true then n else 0
def raised (cs cs' : List Int) (i : Nat) : List Int := (List.range cs.length).map fun j => if j < i then max (cs[j]?.getD 0) (cs'[j]?.getD 0) else cs[j]?.getD 0
@[simp] theorem raised_len (cs cs' i) : (raised cs cs' i).length = cs.length := by simp [raised]
theorem raised_zero (cs cs') : raised cs cs' 0 = cs := by
  apply List.ext_getElem
  · simp
  · intro j h1 h2; simp [raised, h2]
theorem raised_at {cs cs' : List Int} {i : Nat} (h : i < cs.length) : (raised cs cs' i)[i]'(by simpa using h) = cs[i] := by simp [raised, h]
theorem raised_all {cs cs' : List Int} (hl : cs'.length = cs.length) : raised cs cs' cs'.length = List.zipWith max cs cs' := by
  apply List.ext_getElem
  · simp [hl]
  · intro j h1 h2; simp at h1 h2; have : j < cs'.length := by omega
    simp [raised, h1, this]
theorem raised_step {cs cs' : List Int} {i : Nat} (h : i < cs.length) (h' : i < cs'.length) : (raised cs cs' i).set i (max cs[i] cs'[i]) = raised cs cs' (i + 1) := by
  apply List.ext_getElem
  · simp
  · intro j h1 h2
    simp at h1
    rw [List.getElem_set]
    split
    · rename_i e; subst e; simp [raised, h, h']
    · rename_i e
      simp only [raised, List.getElem_map, List.getElem_range]
      by_cases hj : j < i
      · rw [if_pos hj, if_pos (by omega)]
      · rw [if_neg hj, if_neg (by omega)]
theorem c_impl_RaiseSurface (w d : Int) (cs : List Int) (w' d' : Int) (cs' : List Int) (h : cs.length ≤ 1048576) (h' : cs'.length ≤ 1048576) : ACall Try.prog 30 [surf w d cs, surf w' d' cs'] [.x, .x] [surfO (raiN w d cs w' d' cs' w) (raiN w d cs w' d' cs' d) (raiL w d cs w' d' cs'), boo (alikeB w d cs w' d' cs')] := by
  cases hal : alikeB w d cs w' d' cs' with
  | false =>
    refine ACall.of (N := 43) tok Try.func30 rfl rfl rfl (by simp) ?_
    repeat' (first | with_reducible refine OutOK.done ?_ | refine thenQ_n ?_ | refine thenQ_r ?_ | refine thenQ_e ?_ | refine AW.seq ?_ | refine AW.dtreeJ tok mixed [3, 5, 6, 8] [] (.fork [(0, false), (2, false), (4, false), (1, false), (3, true), (5, true)] (.leaf [(6, true), (7, false), (8, true), (9, false)]) (.leaf [(8, true), (6, true), (7, false), (9, false)])) (by decide +kernel) rfl (st2 := ?_) ?_ ?_ | refine AW.dreg tok mixed [4, 6, 7, 9]  [(0, false), (2, false), (3, false), (5, false), (8, false), (1, false), (4, true), (6, true), (7, true), (9, true), (10, false), (11, false)] (by decide +kernel) rfl (by simp [*]; rfl) ?_ | with_reducible exact eqSt _ | with_reducible refine ForkQ.mk ?_ ?_ | with_reducible refine ChkQ.mk (by simp [*, watchB, WatchAll]) ?_ | refine OutT.chk (by simp [*]; rfl) ?_ | refine OutT.leaf (by simp [*]; rfl) ?_ | refine OutT.fork (by simp [*]; rfl) ?_ | refine AW.reg tok (by simp [*]; rfl) ?_ | refine AW.ifB (by simp [*]; rfl) ?_ | refine IfG.t ?_ | refine IfG.f ?_ | (refine IfG.p (fun hg => ?_) (fun hg => ?_) <;> (try (have hg' := hg; simp at hg'))) | (refine IfG.n (fun hg => ?_) (fun hg => ?_) <;> (try (have hg' := hg; simp at hg'))) | (refine OutOK.gateP (fun hg => ?_) (fun hg => ?_) <;> (try (have hg' := hg; simp at hg'))) | (refine OutOK.gateN (fun hg => ?_) (fun hg => ?_) <;> (try (have hg' := hg; simp at hg'))) | (refine IfG.g (fun hg => ?_) (fun hg => ?_) <;> (try (have hg' := hg; simp at hg'))) | (refine OutOK.gate (fun hg => ?_) (fun hg => ?_) <;> (try (have hg' := hg; simp at hg'))) | (refine OutOK.callF [] (by simp [*]; rfl) (by simp [*]; rfl) (by simp [*]; rfl) hb65 (by apply c_impl_alike <;> first | assumption | exact Hd.out (by assumption) | ((try (clear e0)); (try (clear e1)); (try (clear e2)); (try (clear e3)); (try (clear e4)); (try (clear e5)); (try (clear e6)); (try (clear e7)); (try (clear e8)); (try (clear e9)); (try (clear e10)); (try (clear e11)); omega)) ⟨by simp [*], by simp [*], by simp [*], by simp [*], by simp [*]⟩ (by simp [*]) (by simp [*]; rfl) ?_) | (refine OutOK.callF [] (by simp [*]; rfl) (by simp [*]; rfl) (by simp [*]; rfl) hb67 (by apply c_slices_Clone_int_int <;> first | assumption | exact Hd.out (by assumption) | ((try (clear e0)); (try (clear e1)); (try (clear e2)); (try (clear e3)); (try (clear e4)); (try (clear e5)); (try (clear e6)); (try (clear e7)); (try (clear e8)); (try (clear e9)); (try (clear e10)); (try (clear e11)); omega)) ⟨by simp [*], by simp [*], by simp [*], by simp [*], by simp [*]⟩ (by simp [*]) (by simp [*]; rfl) ?_) | refine OutOK.run (by simp [*]; rfl) ?_ | refine AW.ret ?_ | refine AW.skip ?_ | refine AW.exit ?_ | refine fin_r ?_ | refine fin_n ?_ | refine AW.block ?_ | refine blockQ_n ?_ | refine blockQ_r ?_ | refine blockQ_e ?_ | refine blockQ_o rfl ?_)
    simp [Try.f30, raiL, raiN, hal]
  | true =>
    obtain ⟨rfl, rfl, g1, g2, hl⟩ := alike_nat hal
    have hl' : Hd (cs'.length = cs.length) := hl
    clear hl
    refine ACall.of (N := 43) tok Try.func30 rfl rfl rfl (by simp) ?_
    repeat' (first | with_reducible refine OutOK.done ?_ | refine thenQ_n ?_ | refine thenQ_r ?_ | refine thenQ_e ?_ | refine AW.seq ?_ | refine AW.dtreeJ tok mixed [3, 5, 6, 8] [] (.fork [(0, false), (2, false), (4, false), (1, false), (3, true), (5, true)] (.leaf [(6, true), (7, false), (8, true), (9, false)]) (.leaf [(8, true), (6, true), (7, false), (9, false)])) (by decide +kernel) rfl (st2 := ?_) ?_ ?_ | refine AW.dreg tok mixed [4, 6, 7, 9]  [(0, false), (2, false), (3, false), (5, false), (8, false), (1, false), (4, true), (6, true), (7, true), (9, true), (10, false), (11, false)] (by decide +kernel) rfl (by simp [*]; rfl) ?_ | with_reducible exact eqSt _ | with_reducible refine ForkQ.mk ?_ ?_ | with_reducible refine ChkQ.mk (by simp [*, watchB, WatchAll]) ?_ | refine OutT.chk (by simp [*]; rfl) ?_ | refine OutT.leaf (by simp [*]; rfl) ?_ | refine OutT.fork (by simp [*]; rfl) ?_ | refine AW.reg tok (by simp [*]; rfl) ?_ | refine AW.ifB (by simp [*]; rfl) ?_ | refine IfG.t ?_ | refine IfG.f ?_ | (refine IfG.p (fun hg => ?_) (fun hg => ?_) <;> (try (have hg' := hg; simp at hg'))) | (refine IfG.n (fun hg => ?_) (fun hg => ?_) <;> (try (have hg' := hg; simp at hg'))) | (refine OutOK.gateP (fun hg => ?_) (fun hg => ?_) <;> (try (have hg' := hg; simp at hg'))) | (refine OutOK.gateN (fun hg => ?_) (fun hg => ?_) <;> (try (have hg' := hg; simp at hg'))) | (refine IfG.g (fun hg => ?_) (fun hg => ?_) <;> (try (have hg' := hg; simp at hg'))) | (refine OutOK.gate (fun hg => ?_) (fun hg => ?_) <;> (try (have hg' := hg; simp at hg'))) | (refine OutOK.callF [] (by simp [*]; rfl) (by simp [*]; rfl) (by simp [*]; rfl) hb65 (by apply c_impl_alike <;> first | assumption | exact Hd.out (by assumption) | ((try (clear e0)); (try (clear e1)); (try (clear e2)); (try (clear e3)); (try (clear e4)); (try (clear e5)); (try (clear e6)); (try (clear e7)); (try (clear e8)); (try (clear e9)); (try (clear e10)); (try (clear e11)); omega)) ⟨by simp [*], by simp [*], by simp [*], by simp [*], by simp [*]⟩ (by simp [*]) (by simp [*]; rfl) ?_) | (refine OutOK.callF [] (by simp [*]; rfl) (by simp [*]; rfl) (by simp [*]; rfl) hb67 (by apply c_slices_Clone_int_int <;> first | assumption | exact Hd.out (by assumption) | ((try (clear e0)); (try (clear e1)); (try (clear e2)); (try (clear e3)); (try (clear e4)); (try (clear e5)); (try (clear e6)); (try (clear e7)); (try (clear e8)); (try (clear e9)); (try (clear e10)); (try (clear e11)); omega)) ⟨by simp [*], by simp [*], by simp [*], by simp [*], by simp [*]⟩ (by simp [*]) (by simp [*]; rfl) ?_) | refine OutOK.run (by simp [*]; rfl) ?_ | refine AW.ret ?_ | refine AW.skip ?_ | refine AW.exit ?_ | refine fin_r ?_ | refine fin_n ?_ | refine AW.block ?_ | refine blockQ_n ?_ | refine blockQ_r ?_ | refine blockQ_e ?_ | refine blockQ_o rfl ?_)
    refine AW.loopL (fun i => i ≤ cs'.length) (fun i => [(4, .pt 4000 [] 0), (6, .pt 6000 [] 0), (23, .c (.sl true 1 (ints cs'))), (24, .c (.sc (.int .i64 (cs'.length : Int)))), (25, .c (.sc (.int .i64 (i : Int))))])
      (fun i => [(4000, .bx [.sc (.int .i64 0), .sc (.int .i64 0), .sl false 1 []]), (6000, .bx [.sc (.int .i64 w'), .sc (.int .i64 d'), .sl false 1 (ints (raised cs cs' i))])]) (fun i => cs'.length - i) 0 (Nat.zero_le _) ⟨by simp, by simp [raised_zero], by simp⟩ ?_
    intro i hi
    rcases Nat.lt_or_ge i cs'.length with hli' | hli'
    · have hli : i < cs.length := by have := hl'.out; omega
      have hg := raised_at (cs' := cs') hli
      have e1 : wrap64 ((i : Int) + 1) = (i : Int) + 1 := w64 (by omega) (by omega)
      repeat' (first | with_reducible refine OutOK.done ?_ | refine thenQ_n ?_ | refine thenQ_r ?_ | refine thenQ_e ?_ | refine AW.seq ?_ | refine AW.dtreeJ tok mixed [3, 5, 6, 8] [] (.fork [(0, false), (2, false), (4, false), (1, false), (3, true), (5, true)] (.leaf [(6, true), (7, false), (8, true), (9, false)]) (.leaf [(8, true), (6, true), (7, false), (9, false)])) (by decide +kernel) rfl (st2 := ?_) ?_ ?_ | refine AW.dreg tok mixed [4, 6, 7, 9]  [(0, false), (2, false), (3, false), (5, false), (8, false), (1, false), (4, true), (6, true), (7, true), (9, true), (10, false), (11, false)] (by decide +kernel) rfl (by simp [*]; rfl) ?_ | with_reducible exact eqSt _ | with_reducible refine ForkQ.mk ?_ ?_ | with_reducible refine ChkQ.mk (by simp [*, watchB, WatchAll]) ?_ | refine OutT.chk (by simp [*]; rfl) ?_ | refine OutT.leaf (by simp [*]; rfl) ?_ | refine OutT.fork (by simp [*]; rfl) ?_ | refine AW.reg tok (by simp [*]; rfl) ?_ | refine AW.ifB (by simp [*]; rfl) ?_ | refine IfG.t ?_ | refine IfG.f ?_ | (refine IfG.p (fun hg => ?_) (fun hg => ?_) <;> (try (have hg' := hg; simp at hg'))) | (refine IfG.n (fun hg => ?_) (fun hg => ?_) <;> (try (have hg' := hg; simp at hg'))) | (refine OutOK.gateP (fun hg => ?_) (fun hg => ?_) <;> (try (have hg' := hg; simp at hg'))) | (refine OutOK.gateN (fun hg => ?_) (fun hg => ?_) <;> (try (have hg' := hg; simp at hg'))) | (refine IfG.g (fun hg => ?_) (fun hg => ?_) <;> (try (have hg' := hg; simp at hg'))) | (refine OutOK.gate (fun hg => ?_) (fun hg => ?_) <;> (try (have hg' := hg; simp at hg'))) | (refine OutOK.callF [] (by simp [*]; rfl) (by simp [*]; rfl) (by simp [*]; rfl) hb65 (by apply c_impl_alike <;> first | assumption | exact Hd.out (by assumption) | ((try (clear e0)); (try (clear e1)); (try (clear e2)); (try (clear e3)); (try (clear e4)); (try (clear e5)); (try (clear e6)); (try (clear e7)); (try (clear e8)); (try (clear e9)); (try (clear e10)); (try (clear e11)); omega)) ⟨by simp [*], by simp [*], by simp [*], by simp [*], by simp [*]⟩ (by simp [*]) (by simp [*]; rfl) ?_) | (refine OutOK.callF [] (by simp [*]; rfl) (by simp [*]; rfl) (by simp [*]; rfl) hb67 (by apply c_slices_Clone_int_int <;> first | assumption | exact Hd.out (by assumption) | ((try (clear e0)); (try (clear e1)); (try (clear e2)); (try (clear e3)); (try (clear e4)); (try (clear e5)); (try (clear e6)); (try (clear e7)); (try (clear e8)); (try (clear e9)); (try (clear e10)); (try (clear e11)); omega)) ⟨by simp [*], by simp [*], by simp [*], by simp [*], by simp [*]⟩ (by simp [*]) (by simp [*]; rfl) ?_) | refine OutOK.run (by simp [*]; rfl) ?_ | refine AW.ret ?_ | refine AW.skip ?_ | refine AW.exit ?_ | refine fin_r ?_ | refine fin_n ?_ | refine AW.block ?_ | refine blockQ_n ?_ | refine blockQ_r ?_ | refine blockQ_e ?_ | refine blockQ_o rfl ?_)
      refine ⟨i + 1, by clear e1; omega, ⟨?_, ?_, by simp⟩, by clear e1; omega⟩
      · simp [e1]
      · simp [← raised_step hli hli']
        refine congrArg _ ?_
        clear hg e1
        split <;> omega
    · have hn : ¬ i < cs'.length := by omega
      have hii : i = cs'.length := by omega
      subst hii
      have hr := raised_all hl'.out
      repeat' (first | with_reducible refine OutOK.done ?_ | refine thenQ_n ?_ | refine thenQ_r ?_ | refine thenQ_e ?_ | refine AW.seq ?_ | refine AW.dtreeJ tok mixed [3, 5, 6, 8] [] (.fork [(0, false), (2, false), (4, false), (1, false), (3, true), (5, true)] (.leaf [(6, true), (7, false), (8, true), (9, false)]) (.leaf [(8, true), (6, true), (7, false), (9, false)])) (by decide +kernel) rfl (st2 := ?_) ?_ ?_ | refine AW.dreg tok mixed [4, 6, 7, 9]  [(0, false), (2, false), (3, false), (5, false), (8, false), (1, false), (4, true), (6, true), (7, true), (9, true), (10, false), (11, false)] (by decide +kernel) rfl (by simp [*]; rfl) ?_ | with_reducible exact eqSt _ | with_reducible refine ForkQ.mk ?_ ?_ | with_reducible refine ChkQ.mk (by simp [*, watchB, WatchAll]) ?_ | refine OutT.chk (by simp [*]; rfl) ?_ | refine OutT.leaf (by simp [*]; rfl) ?_ | refine OutT.fork (by simp [*]; rfl) ?_ | refine AW.reg tok (by simp [*]; rfl) ?_ | refine AW.ifB (by simp [*]; rfl) ?_ | refine IfG.t ?_ | refine IfG.f ?_ | (refine IfG.p (fun hg => ?_) (fun hg => ?_) <;> (try (have hg' := hg; simp at hg'))) | (refine IfG.n (fun hg => ?_) (fun hg => ?_) <;> (try (have hg' := hg; simp at hg'))) | (refine OutOK.gateP (fun hg => ?_) (fun hg => ?_) <;> (try (have hg' := hg; simp at hg'))) | (refine OutOK.gateN (fun hg => ?_) (fun hg => ?_) <;> (try (have hg' := hg; simp at hg'))) | (refine IfG.g (fun hg => ?_) (fun hg => ?_) <;> (try (have hg' := hg; simp at hg'))) | (refine OutOK.gate (fun hg => ?_) (fun hg => ?_) <;> (try (have hg' := hg; simp at hg'))) | (refine OutOK.callF [] (by simp [*]; rfl) (by simp [*]; rfl) (by simp [*]; rfl) hb65 (by apply c_impl_alike <;> first | assumption | exact Hd.out (by assumption) | ((try (clear e0)); (try (clear e1)); (try (clear e2)); (try (clear e3)); (try (clear e4)); (try (clear e5)); (try (clear e6)); (try (clear e7)); (try (clear e8)); (try (clear e9)); (try (clear e10)); (try (clear e11)); omega)) ⟨by simp [*], by simp [*], by simp [*], by simp [*], by simp [*]⟩ (by simp [*]) (by simp [*]; rfl) ?_) | (refine OutOK.callF [] (by simp [*]; rfl) (by simp [*]; rfl) (by simp [*]; rfl) hb67 (by apply c_slices_Clone_int_int <;> first | assumption | exact Hd.out (by assumption) | ((try (clear e0)); (try (clear e1)); (try (clear e2)); (try (clear e3)); (try (clear e4)); (try (clear e5)); (try (clear e6)); (try (clear e7)); (try (clear e8)); (try (clear e9)); (try (clear e10)); (try (clear e11)); omega)) ⟨by simp [*], by simp [*], by simp [*], by simp [*], by simp [*]⟩ (by simp [*]) (by simp [*]; rfl) ?_) | refine OutOK.run (by simp [*]; rfl) ?_ | refine AW.ret ?_ | refine AW.skip ?_ | refine AW.exit ?_ | refine fin_r ?_ | refine fin_n ?_ | refine AW.block ?_ | refine blockQ_n ?_ | refine blockQ_r ?_ | refine blockQ_e ?_ | refine blockQ_o rfl ?_)
      simp [Try.f30, raiL, raiN, hal, hr]
end Go.Proofs.Ytgojidjfidldbaa.EngS


set_option linter.unusedSimpArgs false
set_option linter.unusedVariables false
set_option maxHeartbeats 4000000
set_option maxRecDepth 10000
namespace Go.Proofs.Ytgojidjfidldbaa.EngS
open Go Go.Proofs Go.Eng Go.RowKit
attribute [local irreducible] Go.RowKit.wrap64
theorem c_spec_RaiseSurface (w d : Int) (cs : List Int) (w' d' : Int) (cs' : List Int) (h : cs.length ≤ 1048576) (h' : cs'.length ≤ 1048576) : ACall Try.prog 29 [surf w d cs, surf w' d' cs'] [.x, .x] [surfO (raiN w d cs w' d' cs' w) (raiN w d cs w' d' cs' d) (raiL w d cs w' d' cs'), boo (alikeB w d cs w' d' cs')] := by
  cases hal : alikeB w d cs w' d' cs' with
  | false =>
    refine ACall.of (N := 43) tok Try.func29 rfl rfl rfl (by simp) ?_
    repeat' (first | with_reducible refine OutOK.done ?_ | refine thenQ_n ?_ | refine thenQ_r ?_ | refine thenQ_e ?_ | refine AW.seq ?_ | refine AW.dreg tok mixed [3, 5, 6, 8, 10, 11, 12, 13]  [(0, false), (2, false), (4, false), (7, false), (9, false), (1, false), (3, true), (5, true), (6, true), (8, true), (10, true), (11, true), (12, true), (13, true), (14, false), (15, false), (16, false)] (by decide +kernel) rfl (by simp [*]; rfl) ?_ | refine AW.reg tok (by simp [*]; rfl) ?_ | refine AW.ifB (by simp [*]; rfl) ?_ | refine IfG.t ?_ | refine IfG.f ?_ | (refine IfG.p (fun hg => ?_) (fun hg => ?_) <;> (try (have hg' := hg; simp at hg'))) | (refine IfG.n (fun hg => ?_) (fun hg => ?_) <;> (try (have hg' := hg; simp at hg'))) | (refine OutOK.gateP (fun hg => ?_) (fun hg => ?_) <;> (try (have hg' := hg; simp at hg'))) | (refine OutOK.gateN (fun hg => ?_) (fun hg => ?_) <;> (try (have hg' := hg; simp at hg'))) | (refine IfG.g (fun hg => ?_) (fun hg => ?_) <;> (try (have hg' := hg; simp at hg'))) | (refine OutOK.gate (fun hg => ?_) (fun hg => ?_) <;> (try (have hg' := hg; simp at hg'))) | (refine OutOK.callF [] (by simp [*]; rfl) (by simp [*]; rfl) (by simp [*]; rfl) hb64 (by apply c_spec_l19Alike <;> first | assumption | exact Hd.out (by assumption) | ((try (clear e0)); (try (clear e1)); (try (clear e2)); (try (clear e3)); (try (clear e4)); (try (clear e5)); (try (clear e6)); (try (clear e7)); (try (clear e8)); (try (clear e9)); (try (clear e10)); (try (clear e11)); omega)) ⟨by simp [*], by simp [*], by simp [*], by simp [*], by simp [*]⟩ (by simp [*]) (by simp [*]; rfl) ?_) | (refine OutOK.callF [] (by simp [*]; rfl) (by simp [*]; rfl) (by simp [*]; rfl) hb66 (by apply c_spec_l1Most <;> first | assumption | exact Hd.out (by assumption) | ((try (clear e0)); (try (clear e1)); (try (clear e2)); (try (clear e3)); (try (clear e4)); (try (clear e5)); (try (clear e6)); (try (clear e7)); (try (clear e8)); (try (clear e9)); (try (clear e10)); (try (clear e11)); omega)) ⟨by simp [*], by simp [*], by simp [*], by simp [*], by simp [*]⟩ (by simp [*]) (by simp [*]; rfl) ?_) | refine OutOK.run (by simp [*]; rfl) ?_ | refine AW.ret ?_ | refine AW.skip ?_ | refine AW.exit ?_ | refine fin_r ?_ | refine fin_n ?_ | refine AW.block ?_ | refine blockQ_n ?_ | refine blockQ_r ?_ | refine blockQ_e ?_ | refine blockQ_o rfl ?_)
    simp [Try.f29, raiL, raiN, hal]
  | true =>
    obtain ⟨rfl, rfl, g1, g2, hl⟩ := alike_nat hal
    have hl' : Hd (cs'.length = cs.length) := hl
    have hz : Hd ((List.zipWith max cs cs').length = cs.length) := by simp [Hd, hl]
    clear hl
    refine ACall.of (N := 43) tok Try.func29 rfl rfl rfl (by simp) ?_
    repeat' (first | with_reducible refine OutOK.done ?_ | refine thenQ_n ?_ | refine thenQ_r ?_ | refine thenQ_e ?_ | refine AW.seq ?_ | refine AW.dreg tok mixed [3, 5, 6, 8, 10, 11, 12, 13]  [(0, false), (2, false), (4, false), (7, false), (9, false), (1, false), (3, true), (5, true), (6, true), (8, true), (10, true), (11, true), (12, true), (13, true), (14, false), (15, false), (16, false)] (by decide +kernel) rfl (by simp [*]; rfl) ?_ | refine AW.reg tok (by simp [*]; rfl) ?_ | refine AW.ifB (by simp [*]; rfl) ?_ | refine IfG.t ?_ | refine IfG.f ?_ | (refine IfG.p (fun hg => ?_) (fun hg => ?_) <;> (try (have hg' := hg; simp at hg'))) | (refine IfG.n (fun hg => ?_) (fun hg => ?_) <;> (try (have hg' := hg; simp at hg'))) | (refine OutOK.gateP (fun hg => ?_) (fun hg => ?_) <;> (try (have hg' := hg; simp at hg'))) | (refine OutOK.gateN (fun hg => ?_) (fun hg => ?_) <;> (try (have hg' := hg; simp at hg'))) | (refine IfG.g (fun hg => ?_) (fun hg => ?_) <;> (try (have hg' := hg; simp at hg'))) | (refine OutOK.gate (fun hg => ?_) (fun hg => ?_) <;> (try (have hg' := hg; simp at hg'))) | (refine OutOK.callF [] (by simp [*]; rfl) (by simp [*]; rfl) (by simp [*]; rfl) hb64 (by apply c_spec_l19Alike <;> first | assumption | exact Hd.out (by assumption) | ((try (clear e0)); (try (clear e1)); (try (clear e2)); (try (clear e3)); (try (clear e4)); (try (clear e5)); (try (clear e6)); (try (clear e7)); (try (clear e8)); (try (clear e9)); (try (clear e10)); (try (clear e11)); omega)) ⟨by simp [*], by simp [*], by simp [*], by simp [*], by simp [*]⟩ (by simp [*]) (by simp [*]; rfl) ?_) | (refine OutOK.callF [] (by simp [*]; rfl) (by simp [*]; rfl) (by simp [*]; rfl) hb66 (by apply c_spec_l1Most <;> first | assumption | exact Hd.out (by assumption) | ((try (clear e0)); (try (clear e1)); (try (clear e2)); (try (clear e3)); (try (clear e4)); (try (clear e5)); (try (clear e6)); (try (clear e7)); (try (clear e8)); (try (clear e9)); (try (clear e10)); (try (clear e11)); omega)) ⟨by simp [*], by simp [*], by simp [*], by simp [*], by simp [*]⟩ (by simp [*]) (by simp [*]; rfl) ?_) | refine OutOK.run (by simp [*]; rfl) ?_ | refine AW.ret ?_ | refine AW.skip ?_ | refine AW.exit ?_ | refine fin_r ?_ | refine fin_n ?_ | refine AW.block ?_ | refine blockQ_n ?_ | refine blockQ_r ?_ | refine blockQ_e ?_ | refine blockQ_o rfl ?_)
    refine AW.loopL (fun i => i ≤ cs.length) (fun i => [(2, .pt 2000 [] 0), (3, .pt 3000 [] 0), (4, .pt 4000 [] 0), (6, .pt 6000 [] 0), (7, .c (.sc (.int .i64 (i : Int))))])
      (fun i => [(2000, .bx [.sc (.int .i64 w'), .sc (.int .i64 d'), .sl true 1 (ints cs)]), (3000, .bx [.sc (.int .i64 w'), .sc (.int .i64 d'), .sl true 1 (ints cs')]), (4000, .bx [.sc (.int .i64 0), .sc (.int .i64 0), .sl false 1 []]), (6000, .bx [.sc (.int .i64 w'), .sc (.int .i64 d'), .sl false 1 (ints ((List.zipWith max cs cs').take i))])]) (fun i => cs.length - i) 0 (Nat.zero_le _) ⟨by simp, by simp, by simp⟩ ?_
    intro i hi
    rcases Nat.lt_or_ge i cs.length with hli | hli
    · have hli' : i < cs'.length := by have := hl'.out; omega
      have e1 : wrap64 ((i : Int) + 1) = ((i + 1 : Nat) : Int) := by rw [w64 (by omega) (by omega)]; omega
      have hst : Hd ((List.zipWith max cs cs').take i ++ [max cs[i] cs'[i]] = (List.zipWith max cs cs').take (i + 1)) := by
        have hlz : i < (List.zipWith max cs cs').length := by have := hz.out; clear e1; omega
        rw [Hd, List.take_succ_eq_append_getElem hlz]; simp
      have hln : ((List.zipWith max cs cs').take i).length = i := by rw [List.length_take]; have := hz.out; clear e1; omega
      generalize (List.zipWith max cs cs').take i = zs at *
      have b1 : (i + 1) * 8 ≤ 140737488355328 := by ((try (clear e0)); (try (clear e1)); (try (clear e2)); (try (clear e3)); (try (clear e4)); (try (clear e5)); (try (clear e6)); (try (clear e7)); (try (clear e8)); (try (clear e9)); (try (clear e10)); (try (clear e11)); omega)
      have b2 : i + 1 ≤ 4611686018427387904 := by ((try (clear e0)); (try (clear e1)); (try (clear e2)); (try (clear e3)); (try (clear e4)); (try (clear e5)); (try (clear e6)); (try (clear e7)); (try (clear e8)); (try (clear e9)); (try (clear e10)); (try (clear e11)); omega)
      repeat' (first | with_reducible refine OutOK.done ?_ | refine thenQ_n ?_ | refine thenQ_r ?_ | refine thenQ_e ?_ | refine AW.seq ?_ | refine AW.dreg tok mixed [3, 5, 6, 8, 10, 11, 12, 13]  [(0, false), (2, false), (4, false), (7, false), (9, false), (1, false), (3, true), (5, true), (6, true), (8, true), (10, true), (11, true), (12, true), (13, true), (14, false), (15, false), (16, false)] (by decide +kernel) rfl (by simp [*]; rfl) ?_ | refine AW.reg tok (by simp [*]; rfl) ?_ | refine AW.ifB (by simp [*]; rfl) ?_ | refine IfG.t ?_ | refine IfG.f ?_ | (refine IfG.p (fun hg => ?_) (fun hg => ?_) <;> (try (have hg' := hg; simp at hg'))) | (refine IfG.n (fun hg => ?_) (fun hg => ?_) <;> (try (have hg' := hg; simp at hg'))) | (refine OutOK.gateP (fun hg => ?_) (fun hg => ?_) <;> (try (have hg' := hg; simp at hg'))) | (refine OutOK.gateN (fun hg => ?_) (fun hg => ?_) <;> (try (have hg' := hg; simp at hg'))) | (refine IfG.g (fun hg => ?_) (fun hg => ?_) <;> (try (have hg' := hg; simp at hg'))) | (refine OutOK.gate (fun hg => ?_) (fun hg => ?_) <;> (try (have hg' := hg; simp at hg'))) | (refine OutOK.callF [] (by simp [*]; rfl) (by simp [*]; rfl) (by simp [*]; rfl) hb64 (by apply c_spec_l19Alike <;> first | assumption | exact Hd.out (by assumption) | ((try (clear e0)); (try (clear e1)); (try (clear e2)); (try (clear e3)); (try (clear e4)); (try (clear e5)); (try (clear e6)); (try (clear e7)); (try (clear e8)); (try (clear e9)); (try (clear e10)); (try (clear e11)); omega)) ⟨by simp [*], by simp [*], by simp [*], by simp [*], by simp [*]⟩ (by simp [*]) (by simp [*]; rfl) ?_) | (refine OutOK.callF [] (by simp [*]; rfl) (by simp [*]; rfl) (by simp [*]; rfl) hb66 (by apply c_spec_l1Most <;> first | assumption | exact Hd.out (by assumption) | ((try (clear e0)); (try (clear e1)); (try (clear e2)); (try (clear e3)); (try (clear e4)); (try (clear e5)); (try (clear e6)); (try (clear e7)); (try (clear e8)); (try (clear e9)); (try (clear e10)); (try (clear e11)); omega)) ⟨by simp [*], by simp [*], by simp [*], by simp [*], by simp [*]⟩ (by simp [*]) (by simp [*]; rfl) ?_) | refine OutOK.run (by simp [*]; rfl) ?_ | refine AW.ret ?_ | refine AW.skip ?_ | refine AW.exit ?_ | refine fin_r ?_ | refine fin_n ?_ | refine AW.block ?_ | refine blockQ_n ?_ | refine blockQ_r ?_ | refine blockQ_e ?_ | refine blockQ_o rfl ?_)
      exact ⟨i + 1, hli, ⟨by simp, by simp [← hst.out], by simp⟩, by ((try (clear e0)); (try (clear e1)); (try (clear e2)); (try (clear e3)); (try (clear e4)); (try (clear e5)); (try (clear e6)); (try (clear e7)); (try (clear e8)); (try (clear e9)); (try (clear e10)); (try (clear e11)); omega)⟩
    · have hii : i = cs.length := by omega
      have hta : (List.zipWith max cs cs').take i = List.zipWith max cs cs' := List.take_of_length_le (by have := hz.out; omega)
      subst hii
      repeat' (first | with_reducible refine OutOK.done ?_ | refine thenQ_n ?_ | refine thenQ_r ?_ | refine thenQ_e ?_ | refine AW.seq ?_ | refine AW.dreg tok mixed [3, 5, 6, 8, 10, 11, 12, 13]  [(0, false), (2, false), (4, false), (7, false), (9, false), (1, false), (3, true), (5, true), (6, true), (8, true), (10, true), (11, true), (12, true), (13, true), (14, false), (15, false), (16, false)] (by decide +kernel) rfl (by simp [*]; rfl) ?_ | refine AW.reg tok (by simp [*]; rfl) ?_ | refine AW.ifB (by simp [*]; rfl) ?_ | refine IfG.t ?_ | refine IfG.f ?_ | (refine IfG.p (fun hg => ?_) (fun hg => ?_) <;> (try (have hg' := hg; simp at hg'))) | (refine IfG.n (fun hg => ?_) (fun hg => ?_) <;> (try (have hg' := hg; simp at hg'))) | (refine OutOK.gateP (fun hg => ?_) (fun hg => ?_) <;> (try (have hg' := hg; simp at hg'))) | (refine OutOK.gateN (fun hg => ?_) (fun hg => ?_) <;> (try (have hg' := hg; simp at hg'))) | (refine IfG.g (fun hg => ?_) (fun hg => ?_) <;> (try (have hg' := hg; simp at hg'))) | (refine OutOK.gate (fun hg => ?_) (fun hg => ?_) <;> (try (have hg' := hg; simp at hg'))) | (refine OutOK.callF [] (by simp [*]; rfl) (by simp [*]; rfl) (by simp [*]; rfl) hb64 (by apply c_spec_l19Alike <;> first | assumption | exact Hd.out (by assumption) | ((try (clear e0)); (try (clear e1)); (try (clear e2)); (try (clear e3)); (try (clear e4)); (try (clear e5)); (try (clear e6)); (try (clear e7)); (try (clear e8)); (try (clear e9)); (try (clear e10)); (try (clear e11)); omega)) ⟨by simp [*], by simp [*], by simp [*], by simp [*], by simp [*]⟩ (by simp [*]) (by simp [*]; rfl) ?_) | (refine OutOK.callF [] (by simp [*]; rfl) (by simp [*]; rfl) (by simp [*]; rfl) hb66 (by apply c_spec_l1Most <;> first | assumption | exact Hd.out (by assumption) | ((try (clear e0)); (try (clear e1)); (try (clear e2)); (try (clear e3)); (try (clear e4)); (try (clear e5)); (try (clear e6)); (try (clear e7)); (try (clear e8)); (try (clear e9)); (try (clear e10)); (try (clear e11)); omega)) ⟨by simp [*], by simp [*], by simp [*], by simp [*], by simp [*]⟩ (by simp [*]) (by simp [*]; rfl) ?_) | refine OutOK.run (by simp [*]; rfl) ?_ | refine AW.ret ?_ | refine AW.skip ?_ | refine AW.exit ?_ | refine fin_r ?_ | refine fin_n ?_ | refine AW.block ?_ | refine blockQ_n ?_ | refine blockQ_r ?_ | refine blockQ_e ?_ | refine blockQ_o rfl ?_)
      simp [Try.f29, raiL, raiN, hal]
theorem c_laws_markSurfaceO (w d : Int) (xs : List Int) (k : Int) (h : xs.length ≤ 1048576) (h1 : 0 ≤ k) (h2 : k ≤ 1000000000000) : ACall Try.prog 31 [surfO w d xs, int k] [surfO w d (upTo k xs.length), .x] [int (k + xs.length)] := by
  refine ACall.of (N := 10) tok Try.func31 rfl rfl rfl (by simp) ?_
  refine AW.name 0 9999 100000003 (kk := 1) (es := ints xs) (by simp) (by simp; rfl) (fun u hu => ?_)
  repeat' (first | with_reducible refine OutOK.done ?_ | refine thenQ_n ?_ | refine thenQ_r ?_ | refine thenQ_e ?_ | refine AW.seq ?_ | refine AW.reg tok (by simp [*]; rfl) ?_ | refine AW.ifB (by simp [*]; rfl) ?_ | refine IfG.t ?_ | refine IfG.f ?_ | (refine IfG.p (fun hg => ?_) (fun hg => ?_) <;> (try (have hg' := hg; simp at hg'))) | (refine IfG.n (fun hg => ?_) (fun hg => ?_) <;> (try (have hg' := hg; simp at hg'))) | (refine OutOK.gateP (fun hg => ?_) (fun hg => ?_) <;> (try (have hg' := hg; simp at hg'))) | (refine OutOK.gateN (fun hg => ?_) (fun hg => ?_) <;> (try (have hg' := hg; simp at hg'))) | (refine IfG.g (fun hg => ?_) (fun hg => ?_) <;> (try (have hg' := hg; simp at hg'))) | (refine OutOK.gate (fun hg => ?_) (fun hg => ?_) <;> (try (have hg' := hg; simp at hg'))) | refine OutOK.run (by simp [*]; rfl) ?_ | refine AW.ret ?_ | refine AW.skip ?_ | refine AW.exit ?_ | refine fin_r ?_ | refine fin_n ?_ | refine AW.block ?_ | refine blockQ_n ?_ | refine blockQ_r ?_ | refine blockQ_e ?_ | refine blockQ_o rfl ?_)
  refine OutOK.known 9999 6 (n := 100000003) (p := []) (u := u) (by simp) (by simp) (by simp; rfl) ?_
  repeat' (first | with_reducible refine OutOK.done ?_ | refine thenQ_n ?_ | refine thenQ_r ?_ | refine thenQ_e ?_ | refine AW.seq ?_ | refine AW.reg tok (by simp [*]; rfl) ?_ | refine AW.ifB (by simp [*]; rfl) ?_ | refine IfG.t ?_ | refine IfG.f ?_ | (refine IfG.p (fun hg => ?_) (fun hg => ?_) <;> (try (have hg' := hg; simp at hg'))) | (refine IfG.n (fun hg => ?_) (fun hg => ?_) <;> (try (have hg' := hg; simp at hg'))) | (refine OutOK.gateP (fun hg => ?_) (fun hg => ?_) <;> (try (have hg' := hg; simp at hg'))) | (refine OutOK.gateN (fun hg => ?_) (fun hg => ?_) <;> (try (have hg' := hg; simp at hg'))) | (refine IfG.g (fun hg => ?_) (fun hg => ?_) <;> (try (have hg' := hg; simp at hg'))) | (refine OutOK.gate (fun hg => ?_) (fun hg => ?_) <;> (try (have hg' := hg; simp at hg'))) | (refine OutOK.callF [true] (by simp [*]; rfl) (by simp [*]; rfl) (by simp [*]; rfl) hb41 (by apply c_laws_markIntS <;> first | assumption | exact Hd.out (by assumption) | ((try (clear e0)); (try (clear e1)); (try (clear e2)); (try (clear e3)); (try (clear e4)); (try (clear e5)); (try (clear e6)); (try (clear e7)); (try (clear e8)); (try (clear e9)); (try (clear e10)); (try (clear e11)); omega)) ⟨by simp [*], by simp [*], by simp [*], by simp [*], by simp [*]⟩ (by simp [*]) (by simp [*]; rfl) ?_) | refine OutOK.run (by simp [*]; rfl) ?_ | refine AW.ret ?_ | refine AW.skip ?_ | refine AW.exit ?_ | refine fin_r ?_ | refine fin_n ?_ | refine AW.block ?_ | refine blockQ_n ?_ | refine blockQ_r ?_ | refine blockQ_e ?_ | refine blockQ_o rfl ?_)
  simp [Try.f31]
theorem c_laws_heldSurface (w d : Int) (n : Nat) (k : Int) (h : n ≤ 1048576) (h1 : 0 ≤ k) (h2 : k ≤ 1000000000000) : ACall Try.prog 32 [surf w d (upTo k n), int k] [.x, .x] [int (k + n)] := by
  have hk : ¬ k + (n : Int) < 0 := by omega
  refine ACall.of (N := 12) tok Try.func32 rfl rfl rfl (by simp) ?_
  repeat' (first | with_reducible refine OutOK.done ?_ | refine thenQ_n ?_ | refine thenQ_r ?_ | refine thenQ_e ?_ | refine AW.seq ?_ | refine AW.reg tok (by simp [*]; rfl) ?_ | refine AW.ifB (by simp [*]; rfl) ?_ | refine IfG.t ?_ | refine IfG.f ?_ | (refine IfG.p (fun hg => ?_) (fun hg => ?_) <;> (try (have hg' := hg; simp at hg'))) | (refine IfG.n (fun hg => ?_) (fun hg => ?_) <;> (try (have hg' := hg; simp at hg'))) | (refine OutOK.gateP (fun hg => ?_) (fun hg => ?_) <;> (try (have hg' := hg; simp at hg'))) | (refine OutOK.gateN (fun hg => ?_) (fun hg => ?_) <;> (try (have hg' := hg; simp at hg'))) | (refine IfG.g (fun hg => ?_) (fun hg => ?_) <;> (try (have hg' := hg; simp at hg'))) | (refine OutOK.gate (fun hg => ?_) (fun hg => ?_) <;> (try (have hg' := hg; simp at hg'))) | (refine OutOK.callF [] (by simp [*]; rfl) (by simp [*]; rfl) (by simp [*]; rfl) hb42 (by apply c_laws_heldIntS <;> first | assumption | exact Hd.out (by assumption) | ((try (clear e0)); (try (clear e1)); (try (clear e2)); (try (clear e3)); (try (clear e4)); (try (clear e5)); (try (clear e6)); (try (clear e7)); (try (clear e8)); (try (clear e9)); (try (clear e10)); (try (clear e11)); omega)) ⟨by simp [*], by simp [*], by simp [*], by simp [*], by simp [*]⟩ (by simp [*]) (by simp [*]; rfl) ?_) | refine OutOK.run (by simp [*]; rfl) ?_ | refine AW.ret ?_ | refine AW.skip ?_ | refine AW.exit ?_ | refine fin_r ?_ | refine fin_n ?_ | refine AW.block ?_ | refine blockQ_n ?_ | refine blockQ_r ?_ | refine blockQ_e ?_ | refine blockQ_o rfl ?_)
  simp [Try.f32]
end Go.Proofs.Ytgojidjfidldbaa.EngS


set_option linter.unusedSimpArgs false
set_option linter.unusedVariables false
set_option maxHeartbeats 4000000
set_option maxRecDepth 10000
namespace Go.Proofs.Ytgojidjfidldbaa.EngS
open Go Go.Proofs Go.Eng Go.RowKit
attribute [local irreducible] Go.RowKit.wrap64
theorem raiL_len {w d : Int} {cs : List Int} {w' d' : Int} {cs' : List Int} : (raiL w d cs w' d' cs').length ≤ cs.length := by
  unfold raiL
  split
  · rw [List.length_zipWith]; omega
  · simp
theorem law_FnExactRaiseSurface (x : Int × Int × List Int) (y : Int × Int × List Int) (hw : (Lit.int .i64 x.1).wf = true ∧ (Lit.int .i64 x.2.1).wf = true ∧ x.2.2.length ≤ maxLen ∧ ∀ y ∈ x.2.2, (Lit.int .i64 y).wf = true) (hv : (Lit.int .i64 y.1).wf = true ∧ (Lit.int .i64 y.2.1).wf = true ∧ y.2.2.length ≤ maxLen ∧ ∀ z ∈ y.2.2, (Lit.int .i64 z).wf = true) :
  ACall Try.prog 7 [surf x.1 x.2.1 x.2.2, surf y.1 y.2.1 y.2.2] [.x, .x] [boo true] := by
  obtain ⟨w, d, cs⟩ := x
  obtain ⟨w', d', cs'⟩ := y
  have hm : maxLen = 9223372036854775807 := rfl
  have h1 := hw.2.2.1
  have h2 := hv.2.2.1
  simp only [hm] at h1 h2 ⊢
  clear hw hv hm
  have b1 := lef_low 1048576 cs.length
  have b2 := lef_le 1048576 cs.length (by omega)
  rcases Nat.lt_or_ge 1048576 cs.length with hs | hs
  · have hlt : lef 1048576 cs.length < 0 := by unfold lef; split <;> omega
    refine ACall.of (N := 119) tok Try.func7 rfl rfl rfl (by simp) ?_
    repeat' (first | with_reducible refine OutOK.done ?_ | refine thenQ_n ?_ | refine thenQ_r ?_ | refine thenQ_e ?_ | refine AW.seq ?_ | refine AW.dtreeJ tok mixed [1, 2, 8] [] (.fork [(0, false), (2, true)] (.fork [(1, true)] (.fork [(3, false)] (.leaf [(4, false), (5, false), (6, false), (7, false), (8, true), (9, false), (10, false)]) (.leaf [(8, true), (4, false), (5, false), (6, false), (7, false), (9, false), (10, false)])) (.leaf [(8, true), (3, false), (4, false), (5, false), (6, false), (7, false), (9, false), (10, false)])) (.leaf [(8, true), (1, true), (3, false), (4, false), (5, false), (6, false), (7, false), (9, false), (10, false)])) (by decide +kernel) rfl (st2 := ?_) ?_ ?_ | refine AW.dreg tok mixed [1, 2]  [(0, false), (1, true), (2, true), (3, false), (4, false)] (by decide +kernel) rfl (by simp [*]; rfl) ?_ | refine AW.dreg tok mixed [1, 2]  [(0, false), (1, true), (2, true), (3, false), (4, false)] (by decide +kernel) rfl (by simp [*]; rfl) ?_ | refine AW.dtreeJ tok mixed [1, 2, 8] [] (.fork [(0, false), (2, true)] (.fork [(1, true)] (.fork [(3, false)] (.leaf [(4, false), (5, false), (6, false), (7, false), (8, true), (9, false), (10, false)]) (.leaf [(8, true), (4, false), (5, false), (6, false), (7, false), (9, false), (10, false)])) (.leaf [(8, true), (3, false), (4, false), (5, false), (6, false), (7, false), (9, false), (10, false)])) (.leaf [(8, true), (1, true), (3, false), (4, false), (5, false), (6, false), (7, false), (9, false), (10, false)])) (by decide +kernel) rfl (st2 := ?_) ?_ ?_ | with_reducible exact eqSt _ | with_reducible refine ForkQ.mk ?_ ?_ | with_reducible refine ChkQ.mk (by simp [*, watchB, WatchAll]) ?_ | refine OutT.chk (by simp [*]; rfl) ?_ | refine OutT.leaf (by simp [*]; rfl) ?_ | refine OutT.fork (by simp [*]; rfl) ?_ | refine AW.reg tok (by simp [*]; rfl) ?_ | refine AW.ifB (by simp [*]; rfl) ?_ | refine IfG.t ?_ | refine IfG.f ?_ | (refine IfG.p (fun hg => ?_) (fun hg => ?_) <;> (try (have hg' := hg; simp at hg'))) | (refine IfG.n (fun hg => ?_) (fun hg => ?_) <;> (try (have hg' := hg; simp at hg'))) | (refine OutOK.gateP (fun hg => ?_) (fun hg => ?_) <;> (try (have hg' := hg; simp at hg'))) | (refine OutOK.gateN (fun hg => ?_) (fun hg => ?_) <;> (try (have hg' := hg; simp at hg'))) | (refine IfG.g (fun hg => ?_) (fun hg => ?_) <;> (try (have hg' := hg; simp at hg'))) | (refine OutOK.gate (fun hg => ?_) (fun hg => ?_) <;> (try (have hg' := hg; simp at hg'))) | (refine OutOK.callF [] (by simp [*]; rfl) (by simp [*]; rfl) (by simp [*]; rfl) hb15 (by apply c_laws_szSurface <;> first | assumption | exact Hd.out (by assumption) | ((try (clear e0)); (try (clear e1)); (try (clear e2)); (try (clear e3)); (try (clear e4)); (try (clear e5)); (try (clear e6)); (try (clear e7)); (try (clear e8)); (try (clear e9)); (try (clear e10)); (try (clear e11)); omega)) ⟨by simp [*], by simp [*], by simp [*], by simp [*], by simp [*]⟩ (by simp [*]) (by simp [*]; rfl) ?_) | (refine OutOK.callF [] (by simp [*]; rfl) (by simp [*]; rfl) (by simp [*]; rfl) hb17 (by apply c_laws_toSurface <;> first | assumption | exact Hd.out (by assumption) | ((try (clear e0)); (try (clear e1)); (try (clear e2)); (try (clear e3)); (try (clear e4)); (try (clear e5)); (try (clear e6)); (try (clear e7)); (try (clear e8)); (try (clear e9)); (try (clear e10)); (try (clear e11)); omega)) ⟨by simp [*], by simp [*], by simp [*], by simp [*], by simp [*]⟩ (by simp [*]) (by simp [*]; rfl) ?_) | (refine OutOK.callF [] (by simp [*]; rfl) (by simp [*]; rfl) (by simp [*]; rfl) hb19 (by apply c_laws_eqSurface <;> first | assumption | exact Hd.out (by assumption) | ((try (clear e0)); (try (clear e1)); (try (clear e2)); (try (clear e3)); (try (clear e4)); (try (clear e5)); (try (clear e6)); (try (clear e7)); (try (clear e8)); (try (clear e9)); (try (clear e10)); (try (clear e11)); omega)) ⟨by simp [*], by simp [*], by simp [*], by simp [*], by simp [*]⟩ (by simp [*]) (by simp [*]; rfl) ?_) | (refine OutOK.callF [] (by simp [*]; rfl) (by simp [*]; rfl) (by simp [*]; rfl) hb29 (by apply c_spec_RaiseSurface <;> first | assumption | exact Hd.out (by assumption) | ((try (clear e0)); (try (clear e1)); (try (clear e2)); (try (clear e3)); (try (clear e4)); (try (clear e5)); (try (clear e6)); (try (clear e7)); (try (clear e8)); (try (clear e9)); (try (clear e10)); (try (clear e11)); omega)) ⟨by simp [*], by simp [*], by simp [*], by simp [*], by simp [*]⟩ (by simp [*]) (by simp [*]; rfl) ?_) | (refine OutOK.callF [] (by simp [*]; rfl) (by simp [*]; rfl) (by simp [*]; rfl) hb30 (by apply c_impl_RaiseSurface <;> first | assumption | exact Hd.out (by assumption) | ((try (clear e0)); (try (clear e1)); (try (clear e2)); (try (clear e3)); (try (clear e4)); (try (clear e5)); (try (clear e6)); (try (clear e7)); (try (clear e8)); (try (clear e9)); (try (clear e10)); (try (clear e11)); omega)) ⟨by simp [*], by simp [*], by simp [*], by simp [*], by simp [*]⟩ (by simp [*]) (by simp [*]; rfl) ?_) | (refine OutOK.callF [] (by simp [*]; rfl) (by simp [*]; rfl) (by simp [*]; rfl) hb31 (by apply c_laws_markSurface <;> first | assumption | exact Hd.out (by assumption) | ((try (clear e0)); (try (clear e1)); (try (clear e2)); (try (clear e3)); (try (clear e4)); (try (clear e5)); (try (clear e6)); (try (clear e7)); (try (clear e8)); (try (clear e9)); (try (clear e10)); (try (clear e11)); omega)) ⟨by simp [*], by simp [*], by simp [*], by simp [*], by simp [*]⟩ (by simp [*]) (by simp [*]; rfl) ?_) | (refine OutOK.callF [] (by simp [*]; rfl) (by simp [*]; rfl) (by simp [*]; rfl) hb32 (by apply c_laws_heldSurface <;> first | assumption | exact Hd.out (by assumption) | ((try (clear e0)); (try (clear e1)); (try (clear e2)); (try (clear e3)); (try (clear e4)); (try (clear e5)); (try (clear e6)); (try (clear e7)); (try (clear e8)); (try (clear e9)); (try (clear e10)); (try (clear e11)); omega)) ⟨by simp [*], by simp [*], by simp [*], by simp [*], by simp [*]⟩ (by simp [*]) (by simp [*]; rfl) ?_) | refine OutOK.run (by simp [*]; rfl) ?_ | refine AW.ret ?_ | refine AW.skip ?_ | refine AW.exit ?_ | refine fin_r ?_ | refine fin_n ?_ | refine AW.block ?_ | refine blockQ_n ?_ | refine blockQ_r ?_ | refine blockQ_e ?_ | refine blockQ_o rfl ?_)
    all_goals (try simp [*, Try.f7])
  · have hlt : ¬ lef 1048576 cs.length < 0 := by unfold lef; split <;> omega
    rcases Nat.lt_or_ge 1048576 cs'.length with hs' | hs'
    · have hlt' : lef (lef 1048576 cs.length) cs'.length < 0 := by generalize lef 1048576 cs.length = l at *; unfold lef; split <;> omega
      refine ACall.of (N := 119) tok Try.func7 rfl rfl rfl (by simp) ?_
      repeat' (first | with_reducible refine OutOK.done ?_ | refine thenQ_n ?_ | refine thenQ_r ?_ | refine thenQ_e ?_ | refine AW.seq ?_ | refine AW.dtreeJ tok mixed [1, 2, 8] [] (.fork [(0, false), (2, true)] (.fork [(1, true)] (.fork [(3, false)] (.leaf [(4, false), (5, false), (6, false), (7, false), (8, true), (9, false), (10, false)]) (.leaf [(8, true), (4, false), (5, false), (6, false), (7, false), (9, false), (10, false)])) (.leaf [(8, true), (3, false), (4, false), (5, false), (6, false), (7, false), (9, false), (10, false)])) (.leaf [(8, true), (1, true), (3, false), (4, false), (5, false), (6, false), (7, false), (9, false), (10, false)])) (by decide +kernel) rfl (st2 := ?_) ?_ ?_ | refine AW.dreg tok mixed [1, 2]  [(0, false), (1, true), (2, true), (3, false), (4, false)] (by decide +kernel) rfl (by simp [*]; rfl) ?_ | refine AW.dreg tok mixed [1, 2]  [(0, false), (1, true), (2, true), (3, false), (4, false)] (by decide +kernel) rfl (by simp [*]; rfl) ?_ | refine AW.dtreeJ tok mixed [1, 2, 8] [] (.fork [(0, false), (2, true)] (.fork [(1, true)] (.fork [(3, false)] (.leaf [(4, false), (5, false), (6, false), (7, false), (8, true), (9, false), (10, false)]) (.leaf [(8, true), (4, false), (5, false), (6, false), (7, false), (9, false), (10, false)])) (.leaf [(8, true), (3, false), (4, false), (5, false), (6, false), (7, false), (9, false), (10, false)])) (.leaf [(8, true), (1, true), (3, false), (4, false), (5, false), (6, false), (7, false), (9, false), (10, false)])) (by decide +kernel) rfl (st2 := ?_) ?_ ?_ | with_reducible exact eqSt _ | with_reducible refine ForkQ.mk ?_ ?_ | with_reducible refine ChkQ.mk (by simp [*, watchB, WatchAll]) ?_ | refine OutT.chk (by simp [*]; rfl) ?_ | refine OutT.leaf (by simp [*]; rfl) ?_ | refine OutT.fork (by simp [*]; rfl) ?_ | refine AW.reg tok (by simp [*]; rfl) ?_ | refine AW.ifB (by simp [*]; rfl) ?_ | refine IfG.t ?_ | refine IfG.f ?_ | (refine IfG.p (fun hg => ?_) (fun hg => ?_) <;> (try (have hg' := hg; simp at hg'))) | (refine IfG.n (fun hg => ?_) (fun hg => ?_) <;> (try (have hg' := hg; simp at hg'))) | (refine OutOK.gateP (fun hg => ?_) (fun hg => ?_) <;> (try (have hg' := hg; simp at hg'))) | (refine OutOK.gateN (fun hg => ?_) (fun hg => ?_) <;> (try (have hg' := hg; simp at hg'))) | (refine IfG.g (fun hg => ?_) (fun hg => ?_) <;> (try (have hg' := hg; simp at hg'))) | (refine OutOK.gate (fun hg => ?_) (fun hg => ?_) <;> (try (have hg' := hg; simp at hg'))) | (refine OutOK.callF [] (by simp [*]; rfl) (by simp [*]; rfl) (by simp [*]; rfl) hb15 (by apply c_laws_szSurface <;> first | assumption | exact Hd.out (by assumption) | ((try (clear e0)); (try (clear e1)); (try (clear e2)); (try (clear e3)); (try (clear e4)); (try (clear e5)); (try (clear e6)); (try (clear e7)); (try (clear e8)); (try (clear e9)); (try (clear e10)); (try (clear e11)); omega)) ⟨by simp [*], by simp [*], by simp [*], by simp [*], by simp [*]⟩ (by simp [*]) (by simp [*]; rfl) ?_) | (refine OutOK.callF [] (by simp [*]; rfl) (by simp [*]; rfl) (by simp [*]; rfl) hb17 (by apply c_laws_toSurface <;> first | assumption | exact Hd.out (by assumption) | ((try (clear e0)); (try (clear e1)); (try (clear e2)); (try (clear e3)); (try (clear e4)); (try (clear e5)); (try (clear e6)); (try (clear e7)); (try (clear e8)); (try (clear e9)); (try (clear e10)); (try (clear e11)); omega)) ⟨by simp [*], by simp [*], by simp [*], by simp [*], by simp [*]⟩ (by simp [*]) (by simp [*]; rfl) ?_) | (refine OutOK.callF [] (by simp [*]; rfl) (by simp [*]; rfl) (by simp [*]; rfl) hb19 (by apply c_laws_eqSurface <;> first | assumption | exact Hd.out (by assumption) | ((try (clear e0)); (try (clear e1)); (try (clear e2)); (try (clear e3)); (try (clear e4)); (try (clear e5)); (try (clear e6)); (try (clear e7)); (try (clear e8)); (try (clear e9)); (try (clear e10)); (try (clear e11)); omega)) ⟨by simp [*], by simp [*], by simp [*], by simp [*], by simp [*]⟩ (by simp [*]) (by simp [*]; rfl) ?_) | (refine OutOK.callF [] (by simp [*]; rfl) (by simp [*]; rfl) (by simp [*]; rfl) hb29 (by apply c_spec_RaiseSurface <;> first | assumption | exact Hd.out (by assumption) | ((try (clear e0)); (try (clear e1)); (try (clear e2)); (try (clear e3)); (try (clear e4)); (try (clear e5)); (try (clear e6)); (try (clear e7)); (try (clear e8)); (try (clear e9)); (try (clear e10)); (try (clear e11)); omega)) ⟨by simp [*], by simp [*], by simp [*], by simp [*], by simp [*]⟩ (by simp [*]) (by simp [*]; rfl) ?_) | (refine OutOK.callF [] (by simp [*]; rfl) (by simp [*]; rfl) (by simp [*]; rfl) hb30 (by apply c_impl_RaiseSurface <;> first | assumption | exact Hd.out (by assumption) | ((try (clear e0)); (try (clear e1)); (try (clear e2)); (try (clear e3)); (try (clear e4)); (try (clear e5)); (try (clear e6)); (try (clear e7)); (try (clear e8)); (try (clear e9)); (try (clear e10)); (try (clear e11)); omega)) ⟨by simp [*], by simp [*], by simp [*], by simp [*], by simp [*]⟩ (by simp [*]) (by simp [*]; rfl) ?_) | (refine OutOK.callF [] (by simp [*]; rfl) (by simp [*]; rfl) (by simp [*]; rfl) hb31 (by apply c_laws_markSurface <;> first | assumption | exact Hd.out (by assumption) | ((try (clear e0)); (try (clear e1)); (try (clear e2)); (try (clear e3)); (try (clear e4)); (try (clear e5)); (try (clear e6)); (try (clear e7)); (try (clear e8)); (try (clear e9)); (try (clear e10)); (try (clear e11)); omega)) ⟨by simp [*], by simp [*], by simp [*], by simp [*], by simp [*]⟩ (by simp [*]) (by simp [*]; rfl) ?_) | (refine OutOK.callF [] (by simp [*]; rfl) (by simp [*]; rfl) (by simp [*]; rfl) hb32 (by apply c_laws_heldSurface <;> first | assumption | exact Hd.out (by assumption) | ((try (clear e0)); (try (clear e1)); (try (clear e2)); (try (clear e3)); (try (clear e4)); (try (clear e5)); (try (clear e6)); (try (clear e7)); (try (clear e8)); (try (clear e9)); (try (clear e10)); (try (clear e11)); omega)) ⟨by simp [*], by simp [*], by simp [*], by simp [*], by simp [*]⟩ (by simp [*]) (by simp [*]; rfl) ?_) | refine OutOK.run (by simp [*]; rfl) ?_ | refine AW.ret ?_ | refine AW.skip ?_ | refine AW.exit ?_ | refine fin_r ?_ | refine fin_n ?_ | refine AW.block ?_ | refine blockQ_n ?_ | refine blockQ_r ?_ | refine blockQ_e ?_ | refine blockQ_o rfl ?_)
      all_goals (try simp [*, Try.f7])
    · have cs1 := c_spec_RaiseSurface w d cs w' d' cs' hs hs'
      have ci1 := c_impl_RaiseSurface w d cs w' d' cs' hs hs'
      have hrl : (raiL w d cs w' d' cs').length ≤ 1048576 := Nat.le_trans raiL_len hs
      generalize raiL w d cs w' d' cs' = rl at *
      generalize raiN w d cs w' d' cs' w = rw' at *
      generalize raiN w d cs w' d' cs' d = rd' at *
      generalize alikeB w d cs w' d' cs' = ok at *
      have k0 : ¬ (1 + (cs.length : Int) + (cs'.length : Int)) < 0 := by omega
      have k1 : ¬ (1 + (rl.length : Int)) < 0 := by omega
      refine ACall.of (N := 119) tok Try.func7 rfl rfl rfl (by simp) ?_
      repeat' (first | with_reducible refine OutOK.done ?_ | refine thenQ_n ?_ | refine thenQ_r ?_ | refine thenQ_e ?_ | refine AW.seq ?_ | refine AW.dtreeJ tok mixed [1, 2, 8] [] (.fork [(0, false), (2, true)] (.fork [(1, true)] (.fork [(3, false)] (.leaf [(4, false), (5, false), (6, false), (7, false), (8, true), (9, false), (10, false)]) (.leaf [(8, true), (4, false), (5, false), (6, false), (7, false), (9, false), (10, false)])) (.leaf [(8, true), (3, false), (4, false), (5, false), (6, false), (7, false), (9, false), (10, false)])) (.leaf [(8, true), (1, true), (3, false), (4, false), (5, false), (6, false), (7, false), (9, false), (10, false)])) (by decide +kernel) rfl (st2 := ?_) ?_ ?_ | refine AW.dreg tok mixed [1, 2]  [(0, false), (1, true), (2, true), (3, false), (4, false)] (by decide +kernel) rfl (by simp [*]; rfl) ?_ | refine AW.dreg tok mixed [1, 2]  [(0, false), (1, true), (2, true), (3, false), (4, false)] (by decide +kernel) rfl (by simp [*]; rfl) ?_ | refine AW.dtreeJ tok mixed [1, 2, 8] [] (.fork [(0, false), (2, true)] (.fork [(1, true)] (.fork [(3, false)] (.leaf [(4, false), (5, false), (6, false), (7, false), (8, true), (9, false), (10, false)]) (.leaf [(8, true), (4, false), (5, false), (6, false), (7, false), (9, false), (10, false)])) (.leaf [(8, true), (3, false), (4, false), (5, false), (6, false), (7, false), (9, false), (10, false)])) (.leaf [(8, true), (1, true), (3, false), (4, false), (5, false), (6, false), (7, false), (9, false), (10, false)])) (by decide +kernel) rfl (st2 := ?_) ?_ ?_ | with_reducible exact eqSt _ | with_reducible refine ForkQ.mk ?_ ?_ | with_reducible refine ChkQ.mk (by simp [*, watchB, WatchAll]) ?_ | refine OutT.chk (by simp [*]; rfl) ?_ | refine OutT.leaf (by simp [*]; rfl) ?_ | refine OutT.fork (by simp [*]; rfl) ?_ | refine AW.reg tok (by simp [*]; rfl) ?_ | refine AW.ifB (by simp [*]; rfl) ?_ | refine IfG.t ?_ | refine IfG.f ?_ | (refine IfG.p (fun hg => ?_) (fun hg => ?_) <;> (try (have hg' := hg; simp at hg'))) | (refine IfG.n (fun hg => ?_) (fun hg => ?_) <;> (try (have hg' := hg; simp at hg'))) | (refine OutOK.gateP (fun hg => ?_) (fun hg => ?_) <;> (try (have hg' := hg; simp at hg'))) | (refine OutOK.gateN (fun hg => ?_) (fun hg => ?_) <;> (try (have hg' := hg; simp at hg'))) | (refine IfG.g (fun hg => ?_) (fun hg => ?_) <;> (try (have hg' := hg; simp at hg'))) | (refine OutOK.gate (fun hg => ?_) (fun hg => ?_) <;> (try (have hg' := hg; simp at hg'))) | (refine OutOK.callF [] (by simp [*]; rfl) (by simp [*]; rfl) (by simp [*]; rfl) hb15 (by apply c_laws_szSurface <;> first | assumption | exact Hd.out (by assumption) | ((try (clear e0)); (try (clear e1)); (try (clear e2)); (try (clear e3)); (try (clear e4)); (try (clear e5)); (try (clear e6)); (try (clear e7)); (try (clear e8)); (try (clear e9)); (try (clear e10)); (try (clear e11)); omega)) ⟨by simp [*], by simp [*], by simp [*], by simp [*], by simp [*]⟩ (by simp [*]) (by simp [*]; rfl) ?_) | (refine OutOK.callF [] (by simp [*]; rfl) (by simp [*]; rfl) (by simp [*]; rfl) hb17 (by apply c_laws_toSurface <;> first | assumption | exact Hd.out (by assumption) | ((try (clear e0)); (try (clear e1)); (try (clear e2)); (try (clear e3)); (try (clear e4)); (try (clear e5)); (try (clear e6)); (try (clear e7)); (try (clear e8)); (try (clear e9)); (try (clear e10)); (try (clear e11)); omega)) ⟨by simp [*], by simp [*], by simp [*], by simp [*], by simp [*]⟩ (by simp [*]) (by simp [*]; rfl) ?_) | (refine OutOK.callF [] (by simp [*]; rfl) (by simp [*]; rfl) (by simp [*]; rfl) hb19 (by apply c_laws_eqSurface <;> first | assumption | exact Hd.out (by assumption) | ((try (clear e0)); (try (clear e1)); (try (clear e2)); (try (clear e3)); (try (clear e4)); (try (clear e5)); (try (clear e6)); (try (clear e7)); (try (clear e8)); (try (clear e9)); (try (clear e10)); (try (clear e11)); omega)) ⟨by simp [*], by simp [*], by simp [*], by simp [*], by simp [*]⟩ (by simp [*]) (by simp [*]; rfl) ?_) | (refine OutOK.callF [] (by simp [*]; rfl) (by simp [*]; rfl) (by simp [*]; rfl) hb32 (by apply c_laws_heldSurface <;> first | assumption | exact Hd.out (by assumption) | ((try (clear e0)); (try (clear e1)); (try (clear e2)); (try (clear e3)); (try (clear e4)); (try (clear e5)); (try (clear e6)); (try (clear e7)); (try (clear e8)); (try (clear e9)); (try (clear e10)); (try (clear e11)); omega)) ⟨by simp [*], by simp [*], by simp [*], by simp [*], by simp [*]⟩ (by simp [*]) (by simp [*]; rfl) ?_) | (refine OutOK.callF [] (by simp [*]; rfl) (by simp [*]; rfl) (by simp [*]; rfl) hb29 (by apply cs1 <;> first | assumption | exact Hd.out (by assumption) | ((try (clear e0)); (try (clear e1)); (try (clear e2)); (try (clear e3)); (try (clear e4)); (try (clear e5)); (try (clear e6)); (try (clear e7)); (try (clear e8)); (try (clear e9)); (try (clear e10)); (try (clear e11)); omega)) ⟨by simp [*], by simp [*], by simp [*], by simp [*], by simp [*]⟩ (by simp [*]) (by simp [*]; rfl) ?_) | (refine OutOK.callF [] (by simp [*]; rfl) (by simp [*]; rfl) (by simp [*]; rfl) hb30 (by apply ci1 <;> first | assumption | exact Hd.out (by assumption) | ((try (clear e0)); (try (clear e1)); (try (clear e2)); (try (clear e3)); (try (clear e4)); (try (clear e5)); (try (clear e6)); (try (clear e7)); (try (clear e8)); (try (clear e9)); (try (clear e10)); (try (clear e11)); omega)) ⟨by simp [*], by simp [*], by simp [*], by simp [*], by simp [*]⟩ (by simp [*]) (by simp [*]; rfl) ?_) | (refine OutOK.callF [true, false] (by simp [*]; rfl) (by simp [*]; rfl) (by simp [*]; rfl) hb31 (by apply c_laws_markSurfaceO <;> first | assumption | exact Hd.out (by assumption) | ((try (clear e0)); (try (clear e1)); (try (clear e2)); (try (clear e3)); (try (clear e4)); (try (clear e5)); (try (clear e6)); (try (clear e7)); (try (clear e8)); (try (clear e9)); (try (clear e10)); (try (clear e11)); omega)) ⟨by simp [*], by simp [*], by simp [*], by simp [*], by simp [*]⟩ (by simp [*]) (by simp [*]; rfl) ?_) | refine OutOK.run (by simp [*]; rfl) ?_ | refine AW.ret ?_ | refine AW.skip ?_ | refine AW.exit ?_ | refine fin_r ?_ | refine fin_n ?_ | refine AW.block ?_ | refine blockQ_n ?_ | refine blockQ_r ?_ | refine blockQ_e ?_ | refine blockQ_o rfl ?_)
      all_goals simp [Try.f7]
end Go.Proofs.Ytgojidjfidldbaa.EngS

