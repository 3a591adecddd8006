import Derived.Test.YtmbjojnldbeicaaLsG4
import Derived.Test.YtmbjojnldbeicaaProg
import Derived.KernelRfl
set_option maxRecDepth 100000
namespace Go.Proofs.Ytmbjojnldbeicaa
open Go Go.LS
noncomputable def lf3 : LFn := (A1 Try.prog (fun _ _ => false) Try.f3).getD default
theorem cf3 : A1 Try.prog (fun _ _ => false) Try.f3 = some lf3 := by kernel_rfl
theorem fr3 : FR Try.prog 3 lf3 := Ar (by kernel_rfl) Try.func3 (by kernel_rfl) cf3
noncomputable def lf8 : LFn := (A1 Try.prog (fun _ _ => false) Try.f8).getD default
theorem cf8 : A1 Try.prog (fun _ _ => false) Try.f8 = some lf8 := by kernel_rfl
theorem fr8 : FR Try.prog 8 lf8 := Ar (by kernel_rfl) Try.func8 (by kernel_rfl) cf8
noncomputable def lf9 : LFn := (A1 Try.prog (fun _ _ => false) Try.f9).getD default
theorem cf9 : A1 Try.prog (fun _ _ => false) Try.f9 = some lf9 := by kernel_rfl
theorem fr9 : FR Try.prog 9 lf9 := Ar (by kernel_rfl) Try.func9 (by kernel_rfl) cf9
noncomputable def lf10 : LFn := (A1 Try.prog (fun _ _ => false) Try.f10).getD default
theorem cf10 : A1 Try.prog (fun _ _ => false) Try.f10 = some lf10 := by kernel_rfl
theorem fr10 : FR Try.prog 10 lf10 := Ar (by kernel_rfl) Try.func10 (by kernel_rfl) cf10
noncomputable def lf11 : LFn := (A1 Try.prog (fun _ _ => false) Try.f11).getD default
theorem cf11 : A1 Try.prog (fun _ _ => false) Try.f11 = some lf11 := by kernel_rfl
theorem fr11 : FR Try.prog 11 lf11 := Ar (by kernel_rfl) Try.func11 (by kernel_rfl) cf11
noncomputable def lf12 : LFn := (A1 Try.prog (fun _ _ => false) Try.f12).getD default
theorem cf12 : A1 Try.prog (fun _ _ => false) Try.f12 = some lf12 := by kernel_rfl
theorem fr12 : FR Try.prog 12 lf12 := Ar (by kernel_rfl) Try.func12 (by kernel_rfl) cf12
noncomputable def lf13 : LFn := (A1 Try.prog (fun _ _ => false) Try.f13).getD default
theorem cf13 : A1 Try.prog (fun _ _ => false) Try.f13 = some lf13 := by kernel_rfl
theorem fr13 : FR Try.prog 13 lf13 := Ar (by kernel_rfl) Try.func13 (by kernel_rfl) cf13
noncomputable def lf14 : LFn := (A1 Try.prog (fun _ _ => false) Try.f14).getD default
theorem cf14 : A1 Try.prog (fun _ _ => false) Try.f14 = some lf14 := by kernel_rfl
theorem fr14 : FR Try.prog 14 lf14 := Ar (by kernel_rfl) Try.func14 (by kernel_rfl) cf14
noncomputable def lf15 : LFn := (A1 Try.prog (fun _ _ => false) Try.f15).getD default
theorem cf15 : A1 Try.prog (fun _ _ => false) Try.f15 = some lf15 := by kernel_rfl
theorem fr15 : FR Try.prog 15 lf15 := Ar (by kernel_rfl) Try.func15 (by kernel_rfl) cf15
noncomputable def lf16 : LFn := (A1 Try.prog (fun _ _ => false) Try.f16).getD default
theorem cf16 : A1 Try.prog (fun _ _ => false) Try.f16 = some lf16 := by kernel_rfl
theorem fr16 : FR Try.prog 16 lf16 := Ar (by kernel_rfl) Try.func16 (by kernel_rfl) cf16
noncomputable def Em : LFn := (A1 Try.prog (fun _ _ => false) Try.f17).getD default
theorem cf17 : A1 Try.prog (fun _ _ => false) Try.f17 = some Em := by kernel_rfl
theorem fr17 : FR Try.prog 17 Em := Ar (by kernel_rfl) Try.func17 (by kernel_rfl) cf17
noncomputable def Mv : LFn := (A1 Try.prog (fun _ _ => false) Try.f18).getD default
theorem cf18 : A1 Try.prog (fun _ _ => false) Try.f18 = some Mv := by kernel_rfl
theorem fr18 : FR Try.prog 18 Mv := Ar (by kernel_rfl) Try.func18 (by kernel_rfl) cf18
noncomputable def lf19 : LFn := (A1 Try.prog (fun _ _ => false) Try.f19).getD default
theorem cf19 : A1 Try.prog (fun _ _ => false) Try.f19 = some lf19 := by kernel_rfl
theorem fr19 : FR Try.prog 19 lf19 := Ar (by kernel_rfl) Try.func19 (by kernel_rfl) cf19
noncomputable def Fv : LFn := (A1 Try.prog (fun _ _ => false) Try.f20).getD default
theorem cf20 : A1 Try.prog (fun _ _ => false) Try.f20 = some Fv := by kernel_rfl
theorem fr20 : FR Try.prog 20 Fv := Ar (by kernel_rfl) Try.func20 (by kernel_rfl) cf20
noncomputable def lf23 : LFn := (A1 Try.prog (fun _ _ => false) Try.f23).getD default
theorem cf23 : A1 Try.prog (fun _ _ => false) Try.f23 = some lf23 := by kernel_rfl
theorem fr23 : FR Try.prog 23 lf23 := Ar (by kernel_rfl) Try.func23 (by kernel_rfl) cf23
noncomputable def lf24 : LFn := (A1 Try.prog (fun _ _ => false) Try.f24).getD default
theorem cf24 : A1 Try.prog (fun _ _ => false) Try.f24 = some lf24 := by kernel_rfl
theorem fr24 : FR Try.prog 24 lf24 := Ar (by kernel_rfl) Try.func24 (by kernel_rfl) cf24
noncomputable def lf26 : LFn := (A1 Try.prog (fun _ _ => false) Try.f26).getD default
theorem cf26 : A1 Try.prog (fun _ _ => false) Try.f26 = some lf26 := by kernel_rfl
theorem fr26 : FR Try.prog 26 lf26 := Ar (by kernel_rfl) Try.func26 (by kernel_rfl) cf26
noncomputable def lf27 : LFn := (A1 Try.prog (fun _ _ => false) Try.f27).getD default
theorem cf27 : A1 Try.prog (fun _ _ => false) Try.f27 = some lf27 := by kernel_rfl
theorem fr27 : FR Try.prog 27 lf27 := Ar (by kernel_rfl) Try.func27 (by kernel_rfl) cf27
noncomputable def H1 : LFn := (A1 Try.prog (fun _ _ => false) Try.f28).getD default
theorem cf28 : A1 Try.prog (fun _ _ => false) Try.f28 = some H1 := by kernel_rfl
theorem fr28 : FR Try.prog 28 H1 := Ar (by kernel_rfl) Try.func28 (by kernel_rfl) cf28
noncomputable def lf29 : LFn := (A1 Try.prog (fun _ _ => false) Try.f29).getD default
theorem cf29 : A1 Try.prog (fun _ _ => false) Try.f29 = some lf29 := by kernel_rfl
theorem fr29 : FR Try.prog 29 lf29 := Ar (by kernel_rfl) Try.func29 (by kernel_rfl) cf29
noncomputable def lf30 : LFn := (A1 Try.prog (fun _ _ => false) Try.f30).getD default
theorem cf30 : A1 Try.prog (fun _ _ => false) Try.f30 = some lf30 := by kernel_rfl
theorem fr30 : FR Try.prog 30 lf30 := Ar (by kernel_rfl) Try.func30 (by kernel_rfl) cf30
noncomputable def Qb : LFn := (A1 Try.prog (fun _ _ => false) Try.f31).getD default
theorem cf31 : A1 Try.prog (fun _ _ => false) Try.f31 = some Qb := by kernel_rfl
theorem fr31 : FR Try.prog 31 Qb := Ar (by kernel_rfl) Try.func31 (by kernel_rfl) cf31
noncomputable def lf32 : LFn := (A1 Try.prog (fun _ _ => false) Try.f32).getD default
theorem cf32 : A1 Try.prog (fun _ _ => false) Try.f32 = some lf32 := by kernel_rfl
theorem fr32 : FR Try.prog 32 lf32 := Ar (by kernel_rfl) Try.func32 (by kernel_rfl) cf32
noncomputable def lf33 : LFn := (A1 Try.prog (fun _ _ => false) Try.f33).getD default
theorem cf33 : A1 Try.prog (fun _ _ => false) Try.f33 = some lf33 := by kernel_rfl
theorem fr33 : FR Try.prog 33 lf33 := Ar (by kernel_rfl) Try.func33 (by kernel_rfl) cf33
noncomputable def Mw : LFn := (A1 Try.prog (fun _ _ => false) Try.f34).getD default
theorem cf34 : A1 Try.prog (fun _ _ => false) Try.f34 = some Mw := by kernel_rfl
theorem fr34 : FR Try.prog 34 Mw := Ar (by kernel_rfl) Try.func34 (by kernel_rfl) cf34
noncomputable def lf35 : LFn := (A1 Try.prog (fun r o => (Nat.beq r 3 && Nat.beq o 2)) Try.f35).getD default
theorem cf35 : A1 Try.prog (fun r o => (Nat.beq r 3 && Nat.beq o 2)) Try.f35 = some lf35 := by kernel_rfl
theorem fr35 : FR Try.prog 35 lf35 := Ar (by kernel_rfl) Try.func35 (by kernel_rfl) cf35
noncomputable def lf36 : LFn := (A1 Try.prog (fun _ _ => false) Try.f36).getD default
theorem cf36 : A1 Try.prog (fun _ _ => false) Try.f36 = some lf36 := by kernel_rfl
theorem fr36 : FR Try.prog 36 lf36 := Ar (by kernel_rfl) Try.func36 (by kernel_rfl) cf36
noncomputable def lf37 : LFn := (A1 Try.prog (fun _ _ => false) Try.f37).getD default
theorem cf37 : A1 Try.prog (fun _ _ => false) Try.f37 = some lf37 := by kernel_rfl
theorem fr37 : FR Try.prog 37 lf37 := Ar (by kernel_rfl) Try.func37 (by kernel_rfl) cf37
noncomputable def lf38 : LFn := (A1 Try.prog (fun _ _ => false) Try.f38).getD default
theorem cf38 : A1 Try.prog (fun _ _ => false) Try.f38 = some lf38 := by kernel_rfl
theorem fr38 : FR Try.prog 38 lf38 := Ar (by kernel_rfl) Try.func38 (by kernel_rfl) cf38
noncomputable def lf39 : LFn := (A1 Try.prog (fun _ _ => false) Try.f39).getD default
theorem cf39 : A1 Try.prog (fun _ _ => false) Try.f39 = some lf39 := by kernel_rfl
theorem fr39 : FR Try.prog 39 lf39 := Ar (by kernel_rfl) Try.func39 (by kernel_rfl) cf39
noncomputable def lf40 : LFn := (A1 Try.prog (fun _ _ => false) Try.f40).getD default
theorem cf40 : A1 Try.prog (fun _ _ => false) Try.f40 = some lf40 := by kernel_rfl
theorem fr40 : FR Try.prog 40 lf40 := Ar (by kernel_rfl) Try.func40 (by kernel_rfl) cf40
noncomputable def lf41 : LFn := (A1 Try.prog (fun _ _ => false) Try.f41).getD default
theorem cf41 : A1 Try.prog (fun _ _ => false) Try.f41 = some lf41 := by kernel_rfl
theorem fr41 : FR Try.prog 41 lf41 := Ar (by kernel_rfl) Try.func41 (by kernel_rfl) cf41
noncomputable def lf42 : LFn := (A1 Try.prog (fun _ _ => false) Try.f42).getD default
theorem cf42 : A1 Try.prog (fun _ _ => false) Try.f42 = some lf42 := by kernel_rfl
theorem fr42 : FR Try.prog 42 lf42 := Ar (by kernel_rfl) Try.func42 (by kernel_rfl) cf42
noncomputable def lf43 : LFn := (A1 Try.prog (fun _ _ => false) Try.f43).getD default
theorem cf43 : A1 Try.prog (fun _ _ => false) Try.f43 = some lf43 := by kernel_rfl
theorem fr43 : FR Try.prog 43 lf43 := Ar (by kernel_rfl) Try.func43 (by kernel_rfl) cf43
noncomputable def lf44 : LFn := (A1 Try.prog (fun _ _ => false) Try.f44).getD default
theorem cf44 : A1 Try.prog (fun _ _ => false) Try.f44 = some lf44 := by kernel_rfl
theorem fr44 : FR Try.prog 44 lf44 := Ar (by kernel_rfl) Try.func44 (by kernel_rfl) cf44
noncomputable def H2 : LFn := (A1 Try.prog (fun _ _ => false) Try.f49).getD default
theorem cf49 : A1 Try.prog (fun _ _ => false) Try.f49 = some H2 := by kernel_rfl
theorem fr49 : FR Try.prog 49 H2 := Ar (by kernel_rfl) Try.func49 (by kernel_rfl) cf49
noncomputable def Ow : LFn := (A1 Try.prog (fun _ _ => false) Try.f50).getD default
theorem cf50 : A1 Try.prog (fun _ _ => false) Try.f50 = some Ow := by kernel_rfl
theorem fr50 : FR Try.prog 50 Ow := Ar (by kernel_rfl) Try.func50 (by kernel_rfl) cf50
noncomputable def Lc : LFn := (A1 Try.prog (fun _ _ => false) Try.f51).getD default
theorem cf51 : A1 Try.prog (fun _ _ => false) Try.f51 = some Lc := by kernel_rfl
theorem fr51 : FR Try.prog 51 Lc := Ar (by kernel_rfl) Try.func51 (by kernel_rfl) cf51
noncomputable def lf52 : LFn := (A1 Try.prog (fun _ _ => false) Try.f52).getD default
theorem cf52 : A1 Try.prog (fun _ _ => false) Try.f52 = some lf52 := by kernel_rfl
theorem fr52 : FR Try.prog 52 lf52 := Ar (by kernel_rfl) Try.func52 (by kernel_rfl) cf52
noncomputable def R1 : LFn := (A1 Try.prog (fun _ _ => false) Try.f53).getD default
theorem cf53 : A1 Try.prog (fun _ _ => false) Try.f53 = some R1 := by kernel_rfl
theorem fr53 : FR Try.prog 53 R1 := Ar (by kernel_rfl) Try.func53 (by kernel_rfl) cf53
noncomputable def Ld : LFn := (A1 Try.prog (fun _ _ => false) Try.f54).getD default
theorem cf54 : A1 Try.prog (fun _ _ => false) Try.f54 = some Ld := by kernel_rfl
theorem fr54 : FR Try.prog 54 Ld := Ar (by kernel_rfl) Try.func54 (by kernel_rfl) cf54
noncomputable def lf55 : LFn := (A1 Try.prog (fun _ _ => false) Try.f55).getD default
theorem cf55 : A1 Try.prog (fun _ _ => false) Try.f55 = some lf55 := by kernel_rfl
theorem fr55 : FR Try.prog 55 lf55 := Ar (by kernel_rfl) Try.func55 (by kernel_rfl) cf55
noncomputable def Le : LFn := (A1 Try.prog (fun _ _ => false) Try.f56).getD default
theorem cf56 : A1 Try.prog (fun _ _ => false) Try.f56 = some Le := by kernel_rfl
theorem fr56 : FR Try.prog 56 Le := Ar (by kernel_rfl) Try.func56 (by kernel_rfl) cf56
noncomputable def lf57 : LFn := (A1 Try.prog (fun _ _ => false) Try.f57).getD default
theorem cf57 : A1 Try.prog (fun _ _ => false) Try.f57 = some lf57 := by kernel_rfl
theorem fr57 : FR Try.prog 57 lf57 := Ar (by kernel_rfl) Try.func57 (by kernel_rfl) cf57
noncomputable def Mx : LFn := (A1 Try.prog (fun _ _ => false) Try.f58).getD default
theorem cf58 : A1 Try.prog (fun _ _ => false) Try.f58 = some Mx := by kernel_rfl
theorem fr58 : FR Try.prog 58 Mx := Ar (by kernel_rfl) Try.func58 (by kernel_rfl) cf58
noncomputable def E7 : LFn := (A1 Try.prog (fun _ _ => false) Try.f59).getD default
theorem cf59 : A1 Try.prog (fun _ _ => false) Try.f59 = some E7 := by kernel_rfl
theorem fr59 : FR Try.prog 59 E7 := Ar (by kernel_rfl) Try.func59 (by kernel_rfl) cf59
noncomputable def lf60 : LFn := (A1 Try.prog (fun _ _ => false) Try.f60).getD default
theorem cf60 : A1 Try.prog (fun _ _ => false) Try.f60 = some lf60 := by kernel_rfl
theorem fr60 : FR Try.prog 60 lf60 := Ar (by kernel_rfl) Try.func60 (by kernel_rfl) cf60
noncomputable def lf61 : LFn := (A1 Try.prog (fun _ _ => false) Try.f61).getD default
theorem cf61 : A1 Try.prog (fun _ _ => false) Try.f61 = some lf61 := by kernel_rfl
theorem fr61 : FR Try.prog 61 lf61 := Ar (by kernel_rfl) Try.func61 (by kernel_rfl) cf61
noncomputable def lf62 : LFn := (A1 Try.prog (fun _ _ => false) Try.f62).getD default
theorem cf62 : A1 Try.prog (fun _ _ => false) Try.f62 = some lf62 := by kernel_rfl
theorem fr62 : FR Try.prog 62 lf62 := Ar (by kernel_rfl) Try.func62 (by kernel_rfl) cf62
noncomputable def Lf : LFn := (A1 Try.prog (fun _ _ => false) Try.f63).getD default
theorem cf63 : A1 Try.prog (fun _ _ => false) Try.f63 = some Lf := by kernel_rfl
theorem fr63 : FR Try.prog 63 Lf := Ar (by kernel_rfl) Try.func63 (by kernel_rfl) cf63
noncomputable def lf64 : LFn := (A1 Try.prog (fun _ _ => false) Try.f64).getD default
theorem cf64 : A1 Try.prog (fun _ _ => false) Try.f64 = some lf64 := by kernel_rfl
theorem fr64 : FR Try.prog 64 lf64 := Ar (by kernel_rfl) Try.func64 (by kernel_rfl) cf64
noncomputable def lf65 : LFn := (A1 Try.prog (fun _ _ => false) Try.f65).getD default
theorem cf65 : A1 Try.prog (fun _ _ => false) Try.f65 = some lf65 := by kernel_rfl
theorem fr65 : FR Try.prog 65 lf65 := Ar (by kernel_rfl) Try.func65 (by kernel_rfl) cf65
noncomputable def My : LFn := (A1 Try.prog (fun _ _ => false) Try.f68).getD default
theorem cf68 : A1 Try.prog (fun _ _ => false) Try.f68 = some My := by kernel_rfl
theorem fr68 : FR Try.prog 68 My := Ar (by kernel_rfl) Try.func68 (by kernel_rfl) cf68
noncomputable def H3 : LFn := (A1 Try.prog (fun _ _ => false) Try.f69).getD default
theorem cf69 : A1 Try.prog (fun _ _ => false) Try.f69 = some H3 := by kernel_rfl
theorem fr69 : FR Try.prog 69 H3 := Ar (by kernel_rfl) Try.func69 (by kernel_rfl) cf69
noncomputable def Nz : LFn := (A1 Try.prog (fun _ _ => false) Try.f70).getD default
theorem cf70 : A1 Try.prog (fun _ _ => false) Try.f70 = some Nz := by kernel_rfl
theorem fr70 : FR Try.prog 70 Nz := Ar (by kernel_rfl) Try.func70 (by kernel_rfl) cf70
noncomputable def lf71 : LFn := (A1 Try.prog (fun _ _ => false) Try.f71).getD default
theorem cf71 : A1 Try.prog (fun _ _ => false) Try.f71 = some lf71 := by kernel_rfl
theorem fr71 : FR Try.prog 71 lf71 := Ar (by kernel_rfl) Try.func71 (by kernel_rfl) cf71
noncomputable def lf72 : LFn := (A1 Try.prog (fun _ _ => false) Try.f72).getD default
theorem cf72 : A1 Try.prog (fun _ _ => false) Try.f72 = some lf72 := by kernel_rfl
theorem fr72 : FR Try.prog 72 lf72 := Ar (by kernel_rfl) Try.func72 (by kernel_rfl) cf72
noncomputable def lf73 : LFn := (A1 Try.prog (fun _ _ => false) Try.f73).getD default
theorem cf73 : A1 Try.prog (fun _ _ => false) Try.f73 = some lf73 := by kernel_rfl
theorem fr73 : FR Try.prog 73 lf73 := Ar (by kernel_rfl) Try.func73 (by kernel_rfl) cf73
noncomputable def lf74 : LFn := (A1 Try.prog (fun _ _ => false) Try.f74).getD default
theorem cf74 : A1 Try.prog (fun _ _ => false) Try.f74 = some lf74 := by kernel_rfl
theorem fr74 : FR Try.prog 74 lf74 := Ar (by kernel_rfl) Try.func74 (by kernel_rfl) cf74
noncomputable def lf75 : LFn := (A1 Try.prog (fun _ _ => false) Try.f75).getD default
theorem cf75 : A1 Try.prog (fun _ _ => false) Try.f75 = some lf75 := by kernel_rfl
theorem fr75 : FR Try.prog 75 lf75 := Ar (by kernel_rfl) Try.func75 (by kernel_rfl) cf75
noncomputable def lf76 : LFn := (A1 Try.prog (fun _ _ => false) Try.f76).getD default
theorem cf76 : A1 Try.prog (fun _ _ => false) Try.f76 = some lf76 := by kernel_rfl
theorem fr76 : FR Try.prog 76 lf76 := Ar (by kernel_rfl) Try.func76 (by kernel_rfl) cf76
noncomputable def lf77 : LFn := (A1 Try.prog (fun _ _ => false) Try.f77).getD default
theorem cf77 : A1 Try.prog (fun _ _ => false) Try.f77 = some lf77 := by kernel_rfl
theorem fr77 : FR Try.prog 77 lf77 := Ar (by kernel_rfl) Try.func77 (by kernel_rfl) cf77
noncomputable def lf78 : LFn := (A1 Try.prog (fun _ _ => false) Try.f78).getD default
theorem cf78 : A1 Try.prog (fun _ _ => false) Try.f78 = some lf78 := by kernel_rfl
theorem fr78 : FR Try.prog 78 lf78 := Ar (by kernel_rfl) Try.func78 (by kernel_rfl) cf78
noncomputable def lf81 : LFn := (A1 Try.prog (fun _ _ => false) Try.f81).getD default
theorem cf81 : A1 Try.prog (fun _ _ => false) Try.f81 = some lf81 := by kernel_rfl
theorem fr81 : FR Try.prog 81 lf81 := Ar (by kernel_rfl) Try.func81 (by kernel_rfl) cf81
noncomputable def Ox : LFn := (A1 Try.prog (fun _ _ => false) Try.f82).getD default
theorem cf82 : A1 Try.prog (fun _ _ => false) Try.f82 = some Ox := by kernel_rfl
theorem fr82 : FR Try.prog 82 Ox := Ar (by kernel_rfl) Try.func82 (by kernel_rfl) cf82
noncomputable def lf83 : LFn := (A1 Try.prog (fun _ _ => false) Try.f83).getD default
theorem cf83 : A1 Try.prog (fun _ _ => false) Try.f83 = some lf83 := by kernel_rfl
theorem fr83 : FR Try.prog 83 lf83 := Ar (by kernel_rfl) Try.func83 (by kernel_rfl) cf83
noncomputable def lf84 : LFn := (A1 Try.prog (fun _ _ => false) Try.f84).getD default
theorem cf84 : A1 Try.prog (fun _ _ => false) Try.f84 = some lf84 := by kernel_rfl
theorem fr84 : FR Try.prog 84 lf84 := Ar (by kernel_rfl) Try.func84 (by kernel_rfl) cf84
noncomputable def Gf : LFn := (A1 Try.prog (fun _ _ => false) Try.f85).getD default
theorem cf85 : A1 Try.prog (fun _ _ => false) Try.f85 = some Gf := by kernel_rfl
theorem fr85 : FR Try.prog 85 Gf := Ar (by kernel_rfl) Try.func85 (by kernel_rfl) cf85
noncomputable def lf86 : LFn := (A1 Try.prog (fun _ _ => false) Try.f86).getD default
theorem cf86 : A1 Try.prog (fun _ _ => false) Try.f86 = some lf86 := by kernel_rfl
theorem fr86 : FR Try.prog 86 lf86 := Ar (by kernel_rfl) Try.func86 (by kernel_rfl) cf86
noncomputable def lf87 : LFn := (A1 Try.prog (fun _ _ => false) Try.f87).getD default
theorem cf87 : A1 Try.prog (fun _ _ => false) Try.f87 = some lf87 := by kernel_rfl
theorem fr87 : FR Try.prog 87 lf87 := Ar (by kernel_rfl) Try.func87 (by kernel_rfl) cf87
noncomputable def lf88 : LFn := (A1 Try.prog (fun _ _ => false) Try.f88).getD default
theorem cf88 : A1 Try.prog (fun _ _ => false) Try.f88 = some lf88 := by kernel_rfl
theorem fr88 : FR Try.prog 88 lf88 := Ar (by kernel_rfl) Try.func88 (by kernel_rfl) cf88
noncomputable def lf89 : LFn := (A1 Try.prog (fun _ _ => false) Try.f89).getD default
theorem cf89 : A1 Try.prog (fun _ _ => false) Try.f89 = some lf89 := by kernel_rfl
theorem fr89 : FR Try.prog 89 lf89 := Ar (by kernel_rfl) Try.func89 (by kernel_rfl) cf89
noncomputable def lf90 : LFn := (A1 Try.prog (fun _ _ => false) Try.f90).getD default
theorem cf90 : A1 Try.prog (fun _ _ => false) Try.f90 = some lf90 := by kernel_rfl
theorem fr90 : FR Try.prog 90 lf90 := Ar (by kernel_rfl) Try.func90 (by kernel_rfl) cf90
noncomputable def lf93 : LFn := (A1 Try.prog (fun _ _ => false) Try.f93).getD default
theorem cf93 : A1 Try.prog (fun _ _ => false) Try.f93 = some lf93 := by kernel_rfl
theorem fr93 : FR Try.prog 93 lf93 := Ar (by kernel_rfl) Try.func93 (by kernel_rfl) cf93
noncomputable def lf94 : LFn := (A1 Try.prog (fun _ _ => false) Try.f94).getD default
theorem cf94 : A1 Try.prog (fun _ _ => false) Try.f94 = some lf94 := by kernel_rfl
theorem fr94 : FR Try.prog 94 lf94 := Ar (by kernel_rfl) Try.func94 (by kernel_rfl) cf94
noncomputable def lf96 : LFn := (A1 Try.prog (fun _ _ => false) Try.f96).getD default
theorem cf96 : A1 Try.prog (fun _ _ => false) Try.f96 = some lf96 := by kernel_rfl
theorem fr96 : FR Try.prog 96 lf96 := Ar (by kernel_rfl) Try.func96 (by kernel_rfl) cf96
end Go.Proofs.Ytmbjojnldbeicaa
