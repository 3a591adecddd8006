import Derived.Test.YtopbbbhhbnghpaaGreatDoorLsG5
import Derived.Test.YtopbbbhhbnghpaaGreatDoorProg
import Derived.KernelRfl
set_option maxRecDepth 100000
namespace Go.Proofs.YtopbbbhhbnghpaaGreatDoor
open Go Go.LS
noncomputable def lf4 : LFn := (compF Tryz.prog (fun _ _ => false) Tryz.f4).getD default
theorem cf4 : compF Tryz.prog (fun _ _ => false) Tryz.f4 = some lf4 := by kernel_rfl
theorem fr4 : FR Tryz.prog 4 lf4 := compF_sound (by kernel_rfl) Tryz.func4 (by kernel_rfl) cf4
noncomputable def lf6 : LFn := (compF Tryz.prog (fun _ _ => false) Tryz.f6).getD default
theorem cf6 : compF Tryz.prog (fun _ _ => false) Tryz.f6 = some lf6 := by kernel_rfl
theorem fr6 : FR Tryz.prog 6 lf6 := compF_sound (by kernel_rfl) Tryz.func6 (by kernel_rfl) cf6
noncomputable def lf10 : LFn := (compF Tryz.prog (fun _ _ => false) Tryz.f10).getD default
theorem cf10 : compF Tryz.prog (fun _ _ => false) Tryz.f10 = some lf10 := by kernel_rfl
theorem fr10 : FR Tryz.prog 10 lf10 := compF_sound (by kernel_rfl) Tryz.func10 (by kernel_rfl) cf10
noncomputable def lf11 : LFn := (compF Tryz.prog (fun _ _ => false) Tryz.f11).getD default
theorem cf11 : compF Tryz.prog (fun _ _ => false) Tryz.f11 = some lf11 := by kernel_rfl
theorem fr11 : FR Tryz.prog 11 lf11 := compF_sound (by kernel_rfl) Tryz.func11 (by kernel_rfl) cf11
noncomputable def lf13 : LFn := (compF Tryz.prog (fun _ _ => false) Tryz.f13).getD default
theorem cf13 : compF Tryz.prog (fun _ _ => false) Tryz.f13 = some lf13 := by kernel_rfl
theorem fr13 : FR Tryz.prog 13 lf13 := compF_sound (by kernel_rfl) Tryz.func13 (by kernel_rfl) cf13
noncomputable def lf14 : LFn := (compF Tryz.prog (fun _ _ => false) Tryz.f14).getD default
theorem cf14 : compF Tryz.prog (fun _ _ => false) Tryz.f14 = some lf14 := by kernel_rfl
theorem fr14 : FR Tryz.prog 14 lf14 := compF_sound (by kernel_rfl) Tryz.func14 (by kernel_rfl) cf14
noncomputable def lf15 : LFn := (compF Tryz.prog (fun _ _ => false) Tryz.f15).getD default
theorem cf15 : compF Tryz.prog (fun _ _ => false) Tryz.f15 = some lf15 := by kernel_rfl
theorem fr15 : FR Tryz.prog 15 lf15 := compF_sound (by kernel_rfl) Tryz.func15 (by kernel_rfl) cf15
noncomputable def lf16 : LFn := (compF Tryz.prog (fun _ _ => false) Tryz.f16).getD default
theorem cf16 : compF Tryz.prog (fun _ _ => false) Tryz.f16 = some lf16 := by kernel_rfl
theorem fr16 : FR Tryz.prog 16 lf16 := compF_sound (by kernel_rfl) Tryz.func16 (by kernel_rfl) cf16
noncomputable def lf17 : LFn := (compF Tryz.prog (fun _ _ => false) Tryz.f17).getD default
theorem cf17 : compF Tryz.prog (fun _ _ => false) Tryz.f17 = some lf17 := by kernel_rfl
theorem fr17 : FR Tryz.prog 17 lf17 := compF_sound (by kernel_rfl) Tryz.func17 (by kernel_rfl) cf17
noncomputable def lf25 : LFn := (compF Tryz.prog (fun _ _ => false) Tryz.f25).getD default
theorem cf25 : compF Tryz.prog (fun _ _ => false) Tryz.f25 = some lf25 := by kernel_rfl
theorem fr25 : FR Tryz.prog 25 lf25 := compF_sound (by kernel_rfl) Tryz.func25 (by kernel_rfl) cf25
noncomputable def lf26 : LFn := (compF Tryz.prog (fun _ _ => false) Tryz.f26).getD default
theorem cf26 : compF Tryz.prog (fun _ _ => false) Tryz.f26 = some lf26 := by kernel_rfl
theorem fr26 : FR Tryz.prog 26 lf26 := compF_sound (by kernel_rfl) Tryz.func26 (by kernel_rfl) cf26
noncomputable def lf27 : LFn := (compF Tryz.prog (fun _ _ => false) Tryz.f27).getD default
theorem cf27 : compF Tryz.prog (fun _ _ => false) Tryz.f27 = some lf27 := by kernel_rfl
theorem fr27 : FR Tryz.prog 27 lf27 := compF_sound (by kernel_rfl) Tryz.func27 (by kernel_rfl) cf27
noncomputable def lf28 : LFn := (compF Tryz.prog (fun _ _ => false) Tryz.f28).getD default
theorem cf28 : compF Tryz.prog (fun _ _ => false) Tryz.f28 = some lf28 := by kernel_rfl
theorem fr28 : FR Tryz.prog 28 lf28 := compF_sound (by kernel_rfl) Tryz.func28 (by kernel_rfl) cf28
noncomputable def lf29 : LFn := (compF Tryz.prog (fun _ _ => false) Tryz.f29).getD default
theorem cf29 : compF Tryz.prog (fun _ _ => false) Tryz.f29 = some lf29 := by kernel_rfl
theorem fr29 : FR Tryz.prog 29 lf29 := compF_sound (by kernel_rfl) Tryz.func29 (by kernel_rfl) cf29
noncomputable def lf30 : LFn := (compF Tryz.prog (fun _ _ => false) Tryz.f30).getD default
theorem cf30 : compF Tryz.prog (fun _ _ => false) Tryz.f30 = some lf30 := by kernel_rfl
theorem fr30 : FR Tryz.prog 30 lf30 := compF_sound (by kernel_rfl) Tryz.func30 (by kernel_rfl) cf30
noncomputable def lf31 : LFn := (compF Tryz.prog (fun _ _ => false) Tryz.f31).getD default
theorem cf31 : compF Tryz.prog (fun _ _ => false) Tryz.f31 = some lf31 := by kernel_rfl
theorem fr31 : FR Tryz.prog 31 lf31 := compF_sound (by kernel_rfl) Tryz.func31 (by kernel_rfl) cf31
noncomputable def lf32 : LFn := (compF Tryz.prog (fun _ _ => false) Tryz.f32).getD default
theorem cf32 : compF Tryz.prog (fun _ _ => false) Tryz.f32 = some lf32 := by kernel_rfl
theorem fr32 : FR Tryz.prog 32 lf32 := compF_sound (by kernel_rfl) Tryz.func32 (by kernel_rfl) cf32
noncomputable def lf33 : LFn := (compF Tryz.prog (fun _ _ => false) Tryz.f33).getD default
theorem cf33 : compF Tryz.prog (fun _ _ => false) Tryz.f33 = some lf33 := by kernel_rfl
theorem fr33 : FR Tryz.prog 33 lf33 := compF_sound (by kernel_rfl) Tryz.func33 (by kernel_rfl) cf33
noncomputable def lf34 : LFn := (compF Tryz.prog (fun _ _ => false) Tryz.f34).getD default
theorem cf34 : compF Tryz.prog (fun _ _ => false) Tryz.f34 = some lf34 := by kernel_rfl
theorem fr34 : FR Tryz.prog 34 lf34 := compF_sound (by kernel_rfl) Tryz.func34 (by kernel_rfl) cf34
noncomputable def lf35 : LFn := (compF Tryz.prog (fun _ _ => false) Tryz.f35).getD default
theorem cf35 : compF Tryz.prog (fun _ _ => false) Tryz.f35 = some lf35 := by kernel_rfl
theorem fr35 : FR Tryz.prog 35 lf35 := compF_sound (by kernel_rfl) Tryz.func35 (by kernel_rfl) cf35
noncomputable def lf36 : LFn := (compF Tryz.prog (fun _ _ => false) Tryz.f36).getD default
theorem cf36 : compF Tryz.prog (fun _ _ => false) Tryz.f36 = some lf36 := by kernel_rfl
theorem fr36 : FR Tryz.prog 36 lf36 := compF_sound (by kernel_rfl) Tryz.func36 (by kernel_rfl) cf36
noncomputable def lf38 : LFn := (compF Tryz.prog (fun _ _ => false) Tryz.f38).getD default
theorem cf38 : compF Tryz.prog (fun _ _ => false) Tryz.f38 = some lf38 := by kernel_rfl
theorem fr38 : FR Tryz.prog 38 lf38 := compF_sound (by kernel_rfl) Tryz.func38 (by kernel_rfl) cf38
noncomputable def lf44 : LFn := (compF Tryz.prog (fun _ _ => false) Tryz.f44).getD default
theorem cf44 : compF Tryz.prog (fun _ _ => false) Tryz.f44 = some lf44 := by kernel_rfl
theorem fr44 : FR Tryz.prog 44 lf44 := compF_sound (by kernel_rfl) Tryz.func44 (by kernel_rfl) cf44
noncomputable def lf46 : LFn := (compF Tryz.prog (fun _ _ => false) Tryz.f46).getD default
theorem cf46 : compF Tryz.prog (fun _ _ => false) Tryz.f46 = some lf46 := by kernel_rfl
theorem fr46 : FR Tryz.prog 46 lf46 := compF_sound (by kernel_rfl) Tryz.func46 (by kernel_rfl) cf46
noncomputable def lf47 : LFn := (compF Tryz.prog (fun _ _ => false) Tryz.f47).getD default
theorem cf47 : compF Tryz.prog (fun _ _ => false) Tryz.f47 = some lf47 := by kernel_rfl
theorem fr47 : FR Tryz.prog 47 lf47 := compF_sound (by kernel_rfl) Tryz.func47 (by kernel_rfl) cf47
noncomputable def lf48 : LFn := (compF Tryz.prog (fun _ _ => false) Tryz.f48).getD default
theorem cf48 : compF Tryz.prog (fun _ _ => false) Tryz.f48 = some lf48 := by kernel_rfl
theorem fr48 : FR Tryz.prog 48 lf48 := compF_sound (by kernel_rfl) Tryz.func48 (by kernel_rfl) cf48
noncomputable def lf49 : LFn := (compF Tryz.prog (fun _ _ => false) Tryz.f49).getD default
theorem cf49 : compF Tryz.prog (fun _ _ => false) Tryz.f49 = some lf49 := by kernel_rfl
theorem fr49 : FR Tryz.prog 49 lf49 := compF_sound (by kernel_rfl) Tryz.func49 (by kernel_rfl) cf49
noncomputable def lf50 : LFn := (compF Tryz.prog (fun _ _ => false) Tryz.f50).getD default
theorem cf50 : compF Tryz.prog (fun _ _ => false) Tryz.f50 = some lf50 := by kernel_rfl
theorem fr50 : FR Tryz.prog 50 lf50 := compF_sound (by kernel_rfl) Tryz.func50 (by kernel_rfl) cf50
noncomputable def lf51 : LFn := (compF Tryz.prog (fun _ _ => false) Tryz.f51).getD default
theorem cf51 : compF Tryz.prog (fun _ _ => false) Tryz.f51 = some lf51 := by kernel_rfl
theorem fr51 : FR Tryz.prog 51 lf51 := compF_sound (by kernel_rfl) Tryz.func51 (by kernel_rfl) cf51
noncomputable def lf52 : LFn := (compF Tryz.prog (fun _ _ => false) Tryz.f52).getD default
theorem cf52 : compF Tryz.prog (fun _ _ => false) Tryz.f52 = some lf52 := by kernel_rfl
theorem fr52 : FR Tryz.prog 52 lf52 := compF_sound (by kernel_rfl) Tryz.func52 (by kernel_rfl) cf52
noncomputable def lf53 : LFn := (compF Tryz.prog (fun _ _ => false) Tryz.f53).getD default
theorem cf53 : compF Tryz.prog (fun _ _ => false) Tryz.f53 = some lf53 := by kernel_rfl
theorem fr53 : FR Tryz.prog 53 lf53 := compF_sound (by kernel_rfl) Tryz.func53 (by kernel_rfl) cf53
noncomputable def lf54 : LFn := (compF Tryz.prog (fun _ _ => false) Tryz.f54).getD default
theorem cf54 : compF Tryz.prog (fun _ _ => false) Tryz.f54 = some lf54 := by kernel_rfl
theorem fr54 : FR Tryz.prog 54 lf54 := compF_sound (by kernel_rfl) Tryz.func54 (by kernel_rfl) cf54
noncomputable def lf55 : LFn := (compF Tryz.prog (fun _ _ => false) Tryz.f55).getD default
theorem cf55 : compF Tryz.prog (fun _ _ => false) Tryz.f55 = some lf55 := by kernel_rfl
theorem fr55 : FR Tryz.prog 55 lf55 := compF_sound (by kernel_rfl) Tryz.func55 (by kernel_rfl) cf55
noncomputable def lf61 : LFn := (compF Tryz.prog (fun _ _ => false) Tryz.f61).getD default
theorem cf61 : compF Tryz.prog (fun _ _ => false) Tryz.f61 = some lf61 := by kernel_rfl
theorem fr61 : FR Tryz.prog 61 lf61 := compF_sound (by kernel_rfl) Tryz.func61 (by kernel_rfl) cf61
noncomputable def lf62 : LFn := (compF Tryz.prog (fun _ _ => false) Tryz.f62).getD default
theorem cf62 : compF Tryz.prog (fun _ _ => false) Tryz.f62 = some lf62 := by kernel_rfl
theorem fr62 : FR Tryz.prog 62 lf62 := compF_sound (by kernel_rfl) Tryz.func62 (by kernel_rfl) cf62
noncomputable def lf63 : LFn := (compF Tryz.prog (fun _ _ => false) Tryz.f63).getD default
theorem cf63 : compF Tryz.prog (fun _ _ => false) Tryz.f63 = some lf63 := by kernel_rfl
theorem fr63 : FR Tryz.prog 63 lf63 := compF_sound (by kernel_rfl) Tryz.func63 (by kernel_rfl) cf63
noncomputable def lf64 : LFn := (compF Tryz.prog (fun _ _ => false) Tryz.f64).getD default
theorem cf64 : compF Tryz.prog (fun _ _ => false) Tryz.f64 = some lf64 := by kernel_rfl
theorem fr64 : FR Tryz.prog 64 lf64 := compF_sound (by kernel_rfl) Tryz.func64 (by kernel_rfl) cf64
noncomputable def lf65 : LFn := (compF Tryz.prog (fun _ _ => false) Tryz.f65).getD default
theorem cf65 : compF Tryz.prog (fun _ _ => false) Tryz.f65 = some lf65 := by kernel_rfl
theorem fr65 : FR Tryz.prog 65 lf65 := compF_sound (by kernel_rfl) Tryz.func65 (by kernel_rfl) cf65
noncomputable def lf66 : LFn := (compF Tryz.prog (fun _ _ => false) Tryz.f66).getD default
theorem cf66 : compF Tryz.prog (fun _ _ => false) Tryz.f66 = some lf66 := by kernel_rfl
theorem fr66 : FR Tryz.prog 66 lf66 := compF_sound (by kernel_rfl) Tryz.func66 (by kernel_rfl) cf66
noncomputable def lf67 : LFn := (compF Tryz.prog (fun _ _ => false) Tryz.f67).getD default
theorem cf67 : compF Tryz.prog (fun _ _ => false) Tryz.f67 = some lf67 := by kernel_rfl
theorem fr67 : FR Tryz.prog 67 lf67 := compF_sound (by kernel_rfl) Tryz.func67 (by kernel_rfl) cf67
noncomputable def lf68 : LFn := (compF Tryz.prog (fun _ _ => false) Tryz.f68).getD default
theorem cf68 : compF Tryz.prog (fun _ _ => false) Tryz.f68 = some lf68 := by kernel_rfl
theorem fr68 : FR Tryz.prog 68 lf68 := compF_sound (by kernel_rfl) Tryz.func68 (by kernel_rfl) cf68
noncomputable def lf70 : LFn := (compF Tryz.prog (fun _ _ => false) Tryz.f70).getD default
theorem cf70 : compF Tryz.prog (fun _ _ => false) Tryz.f70 = some lf70 := by kernel_rfl
theorem fr70 : FR Tryz.prog 70 lf70 := compF_sound (by kernel_rfl) Tryz.func70 (by kernel_rfl) cf70
noncomputable def lf71 : LFn := (compF Tryz.prog (fun _ _ => false) Tryz.f71).getD default
theorem cf71 : compF Tryz.prog (fun _ _ => false) Tryz.f71 = some lf71 := by kernel_rfl
theorem fr71 : FR Tryz.prog 71 lf71 := compF_sound (by kernel_rfl) Tryz.func71 (by kernel_rfl) cf71
noncomputable def lf82 : LFn := (compF Tryz.prog (fun _ _ => false) Tryz.f82).getD default
theorem cf82 : compF Tryz.prog (fun _ _ => false) Tryz.f82 = some lf82 := by kernel_rfl
theorem fr82 : FR Tryz.prog 82 lf82 := compF_sound (by kernel_rfl) Tryz.func82 (by kernel_rfl) cf82
noncomputable def lf84 : LFn := (compF Tryz.prog (fun _ _ => false) Tryz.f84).getD default
theorem cf84 : compF Tryz.prog (fun _ _ => false) Tryz.f84 = some lf84 := by kernel_rfl
theorem fr84 : FR Tryz.prog 84 lf84 := compF_sound (by kernel_rfl) Tryz.func84 (by kernel_rfl) cf84
noncomputable def lf85 : LFn := (compF Tryz.prog (fun _ _ => false) Tryz.f85).getD default
theorem cf85 : compF Tryz.prog (fun _ _ => false) Tryz.f85 = some lf85 := by kernel_rfl
theorem fr85 : FR Tryz.prog 85 lf85 := compF_sound (by kernel_rfl) Tryz.func85 (by kernel_rfl) cf85
noncomputable def lf86 : LFn := (compF Tryz.prog (fun _ _ => false) Tryz.f86).getD default
theorem cf86 : compF Tryz.prog (fun _ _ => false) Tryz.f86 = some lf86 := by kernel_rfl
theorem fr86 : FR Tryz.prog 86 lf86 := compF_sound (by kernel_rfl) Tryz.func86 (by kernel_rfl) cf86
noncomputable def lf87 : LFn := (compF Tryz.prog (fun _ _ => false) Tryz.f87).getD default
theorem cf87 : compF Tryz.prog (fun _ _ => false) Tryz.f87 = some lf87 := by kernel_rfl
theorem fr87 : FR Tryz.prog 87 lf87 := compF_sound (by kernel_rfl) Tryz.func87 (by kernel_rfl) cf87
noncomputable def lf88 : LFn := (compF Tryz.prog (fun _ _ => false) Tryz.f88).getD default
theorem cf88 : compF Tryz.prog (fun _ _ => false) Tryz.f88 = some lf88 := by kernel_rfl
theorem fr88 : FR Tryz.prog 88 lf88 := compF_sound (by kernel_rfl) Tryz.func88 (by kernel_rfl) cf88
noncomputable def lf89 : LFn := (compF Tryz.prog (fun _ _ => false) Tryz.f89).getD default
theorem cf89 : compF Tryz.prog (fun _ _ => false) Tryz.f89 = some lf89 := by kernel_rfl
theorem fr89 : FR Tryz.prog 89 lf89 := compF_sound (by kernel_rfl) Tryz.func89 (by kernel_rfl) cf89
noncomputable def lf90 : LFn := (compF Tryz.prog (fun _ _ => false) Tryz.f90).getD default
theorem cf90 : compF Tryz.prog (fun _ _ => false) Tryz.f90 = some lf90 := by kernel_rfl
theorem fr90 : FR Tryz.prog 90 lf90 := compF_sound (by kernel_rfl) Tryz.func90 (by kernel_rfl) cf90
noncomputable def lf95 : LFn := (compF Tryz.prog (fun _ _ => false) Tryz.f95).getD default
theorem cf95 : compF Tryz.prog (fun _ _ => false) Tryz.f95 = some lf95 := by kernel_rfl
theorem fr95 : FR Tryz.prog 95 lf95 := compF_sound (by kernel_rfl) Tryz.func95 (by kernel_rfl) cf95
noncomputable def lf104 : LFn := (compF Tryz.prog (fun _ _ => false) Tryz.f104).getD default
theorem cf104 : compF Tryz.prog (fun _ _ => false) Tryz.f104 = some lf104 := by kernel_rfl
theorem fr104 : FR Tryz.prog 104 lf104 := compF_sound (by kernel_rfl) Tryz.func104 (by kernel_rfl) cf104
noncomputable def lf105 : LFn := (compF Tryz.prog (fun _ _ => false) Tryz.f105).getD default
theorem cf105 : compF Tryz.prog (fun _ _ => false) Tryz.f105 = some lf105 := by kernel_rfl
theorem fr105 : FR Tryz.prog 105 lf105 := compF_sound (by kernel_rfl) Tryz.func105 (by kernel_rfl) cf105
noncomputable def lf106 : LFn := (compF Tryz.prog (fun _ _ => false) Tryz.f106).getD default
theorem cf106 : compF Tryz.prog (fun _ _ => false) Tryz.f106 = some lf106 := by kernel_rfl
theorem fr106 : FR Tryz.prog 106 lf106 := compF_sound (by kernel_rfl) Tryz.func106 (by kernel_rfl) cf106
noncomputable def lf107 : LFn := (compF Tryz.prog (fun _ _ => false) Tryz.f107).getD default
theorem cf107 : compF Tryz.prog (fun _ _ => false) Tryz.f107 = some lf107 := by kernel_rfl
theorem fr107 : FR Tryz.prog 107 lf107 := compF_sound (by kernel_rfl) Tryz.func107 (by kernel_rfl) cf107
noncomputable def lf108 : LFn := (compF Tryz.prog (fun _ _ => false) Tryz.f108).getD default
theorem cf108 : compF Tryz.prog (fun _ _ => false) Tryz.f108 = some lf108 := by kernel_rfl
theorem fr108 : FR Tryz.prog 108 lf108 := compF_sound (by kernel_rfl) Tryz.func108 (by kernel_rfl) cf108
noncomputable def lf109 : LFn := (compF Tryz.prog (fun _ _ => false) Tryz.f109).getD default
theorem cf109 : compF Tryz.prog (fun _ _ => false) Tryz.f109 = some lf109 := by kernel_rfl
theorem fr109 : FR Tryz.prog 109 lf109 := compF_sound (by kernel_rfl) Tryz.func109 (by kernel_rfl) cf109
noncomputable def lf110 : LFn := (compF Tryz.prog (fun _ _ => false) Tryz.f110).getD default
theorem cf110 : compF Tryz.prog (fun _ _ => false) Tryz.f110 = some lf110 := by kernel_rfl
theorem fr110 : FR Tryz.prog 110 lf110 := compF_sound (by kernel_rfl) Tryz.func110 (by kernel_rfl) cf110
noncomputable def lf111 : LFn := (compF Tryz.prog (fun _ _ => false) Tryz.f111).getD default
theorem cf111 : compF Tryz.prog (fun _ _ => false) Tryz.f111 = some lf111 := by kernel_rfl
theorem fr111 : FR Tryz.prog 111 lf111 := compF_sound (by kernel_rfl) Tryz.func111 (by kernel_rfl) cf111
noncomputable def lf112 : LFn := (compF Tryz.prog (fun _ _ => false) Tryz.f112).getD default
theorem cf112 : compF Tryz.prog (fun _ _ => false) Tryz.f112 = some lf112 := by kernel_rfl
theorem fr112 : FR Tryz.prog 112 lf112 := compF_sound (by kernel_rfl) Tryz.func112 (by kernel_rfl) cf112
noncomputable def lf113 : LFn := (compF Tryz.prog (fun _ _ => false) Tryz.f113).getD default
theorem cf113 : compF Tryz.prog (fun _ _ => false) Tryz.f113 = some lf113 := by kernel_rfl
theorem fr113 : FR Tryz.prog 113 lf113 := compF_sound (by kernel_rfl) Tryz.func113 (by kernel_rfl) cf113
noncomputable def lf114 : LFn := (compF Tryz.prog (fun _ _ => false) Tryz.f114).getD default
theorem cf114 : compF Tryz.prog (fun _ _ => false) Tryz.f114 = some lf114 := by kernel_rfl
theorem fr114 : FR Tryz.prog 114 lf114 := compF_sound (by kernel_rfl) Tryz.func114 (by kernel_rfl) cf114
noncomputable def lf115 : LFn := (compF Tryz.prog (fun _ _ => false) Tryz.f115).getD default
theorem cf115 : compF Tryz.prog (fun _ _ => false) Tryz.f115 = some lf115 := by kernel_rfl
theorem fr115 : FR Tryz.prog 115 lf115 := compF_sound (by kernel_rfl) Tryz.func115 (by kernel_rfl) cf115
noncomputable def lf117 : LFn := (compF Tryz.prog (fun _ _ => false) Tryz.f117).getD default
theorem cf117 : compF Tryz.prog (fun _ _ => false) Tryz.f117 = some lf117 := by kernel_rfl
theorem fr117 : FR Tryz.prog 117 lf117 := compF_sound (by kernel_rfl) Tryz.func117 (by kernel_rfl) cf117
noncomputable def lf120 : LFn := (compF Tryz.prog (fun _ _ => false) Tryz.f120).getD default
theorem cf120 : compF Tryz.prog (fun _ _ => false) Tryz.f120 = some lf120 := by kernel_rfl
theorem fr120 : FR Tryz.prog 120 lf120 := compF_sound (by kernel_rfl) Tryz.func120 (by kernel_rfl) cf120
noncomputable def lf127 : LFn := (compF Tryz.prog (fun _ _ => false) Tryz.f127).getD default
theorem cf127 : compF Tryz.prog (fun _ _ => false) Tryz.f127 = some lf127 := by kernel_rfl
theorem fr127 : FR Tryz.prog 127 lf127 := compF_sound (by kernel_rfl) Tryz.func127 (by kernel_rfl) cf127
noncomputable def lf128 : LFn := (compF Tryz.prog (fun _ _ => false) Tryz.f128).getD default
theorem cf128 : compF Tryz.prog (fun _ _ => false) Tryz.f128 = some lf128 := by kernel_rfl
theorem fr128 : FR Tryz.prog 128 lf128 := compF_sound (by kernel_rfl) Tryz.func128 (by kernel_rfl) cf128
noncomputable def lf129 : LFn := (compF Tryz.prog (fun _ _ => false) Tryz.f129).getD default
theorem cf129 : compF Tryz.prog (fun _ _ => false) Tryz.f129 = some lf129 := by kernel_rfl
theorem fr129 : FR Tryz.prog 129 lf129 := compF_sound (by kernel_rfl) Tryz.func129 (by kernel_rfl) cf129
noncomputable def lf130 : LFn := (compF Tryz.prog (fun _ _ => false) Tryz.f130).getD default
theorem cf130 : compF Tryz.prog (fun _ _ => false) Tryz.f130 = some lf130 := by kernel_rfl
theorem fr130 : FR Tryz.prog 130 lf130 := compF_sound (by kernel_rfl) Tryz.func130 (by kernel_rfl) cf130
noncomputable def lf131 : LFn := (compF Tryz.prog (fun _ _ => false) Tryz.f131).getD default
theorem cf131 : compF Tryz.prog (fun _ _ => false) Tryz.f131 = some lf131 := by kernel_rfl
theorem fr131 : FR Tryz.prog 131 lf131 := compF_sound (by kernel_rfl) Tryz.func131 (by kernel_rfl) cf131
noncomputable def lf132 : LFn := (compF Tryz.prog (fun _ _ => false) Tryz.f132).getD default
theorem cf132 : compF Tryz.prog (fun _ _ => false) Tryz.f132 = some lf132 := by kernel_rfl
theorem fr132 : FR Tryz.prog 132 lf132 := compF_sound (by kernel_rfl) Tryz.func132 (by kernel_rfl) cf132
noncomputable def lf133 : LFn := (compF Tryz.prog (fun _ _ => false) Tryz.f133).getD default
theorem cf133 : compF Tryz.prog (fun _ _ => false) Tryz.f133 = some lf133 := by kernel_rfl
theorem fr133 : FR Tryz.prog 133 lf133 := compF_sound (by kernel_rfl) Tryz.func133 (by kernel_rfl) cf133
noncomputable def lf134 : LFn := (compF Tryz.prog (fun _ _ => false) Tryz.f134).getD default
theorem cf134 : compF Tryz.prog (fun _ _ => false) Tryz.f134 = some lf134 := by kernel_rfl
theorem fr134 : FR Tryz.prog 134 lf134 := compF_sound (by kernel_rfl) Tryz.func134 (by kernel_rfl) cf134
noncomputable def lf135 : LFn := (compF Tryz.prog (fun _ _ => false) Tryz.f135).getD default
theorem cf135 : compF Tryz.prog (fun _ _ => false) Tryz.f135 = some lf135 := by kernel_rfl
theorem fr135 : FR Tryz.prog 135 lf135 := compF_sound (by kernel_rfl) Tryz.func135 (by kernel_rfl) cf135
noncomputable def lf136 : LFn := (compF Tryz.prog (fun _ _ => false) Tryz.f136).getD default
theorem cf136 : compF Tryz.prog (fun _ _ => false) Tryz.f136 = some lf136 := by kernel_rfl
theorem fr136 : FR Tryz.prog 136 lf136 := compF_sound (by kernel_rfl) Tryz.func136 (by kernel_rfl) cf136
noncomputable def lf140 : LFn := (compF Tryz.prog (fun _ _ => false) Tryz.f140).getD default
theorem cf140 : compF Tryz.prog (fun _ _ => false) Tryz.f140 = some lf140 := by kernel_rfl
theorem fr140 : FR Tryz.prog 140 lf140 := compF_sound (by kernel_rfl) Tryz.func140 (by kernel_rfl) cf140
noncomputable def lf143 : LFn := (compF Tryz.prog (fun _ _ => false) Tryz.f143).getD default
theorem cf143 : compF Tryz.prog (fun _ _ => false) Tryz.f143 = some lf143 := by kernel_rfl
theorem fr143 : FR Tryz.prog 143 lf143 := compF_sound (by kernel_rfl) Tryz.func143 (by kernel_rfl) cf143
noncomputable def lf155 : LFn := (compF Tryz.prog (fun _ _ => false) Tryz.f155).getD default
theorem cf155 : compF Tryz.prog (fun _ _ => false) Tryz.f155 = some lf155 := by kernel_rfl
theorem fr155 : FR Tryz.prog 155 lf155 := compF_sound (by kernel_rfl) Tryz.func155 (by kernel_rfl) cf155
noncomputable def lf156 : LFn := (compF Tryz.prog (fun _ _ => false) Tryz.f156).getD default
theorem cf156 : compF Tryz.prog (fun _ _ => false) Tryz.f156 = some lf156 := by kernel_rfl
theorem fr156 : FR Tryz.prog 156 lf156 := compF_sound (by kernel_rfl) Tryz.func156 (by kernel_rfl) cf156
noncomputable def lf157 : LFn := (compF Tryz.prog (fun _ _ => false) Tryz.f157).getD default
theorem cf157 : compF Tryz.prog (fun _ _ => false) Tryz.f157 = some lf157 := by kernel_rfl
theorem fr157 : FR Tryz.prog 157 lf157 := compF_sound (by kernel_rfl) Tryz.func157 (by kernel_rfl) cf157
noncomputable def lf165 : LFn := (compF Tryz.prog (fun _ _ => false) Tryz.f165).getD default
theorem cf165 : compF Tryz.prog (fun _ _ => false) Tryz.f165 = some lf165 := by kernel_rfl
theorem fr165 : FR Tryz.prog 165 lf165 := compF_sound (by kernel_rfl) Tryz.func165 (by kernel_rfl) cf165
noncomputable def lf166 : LFn := (compF Tryz.prog (fun _ _ => false) Tryz.f166).getD default
theorem cf166 : compF Tryz.prog (fun _ _ => false) Tryz.f166 = some lf166 := by kernel_rfl
theorem fr166 : FR Tryz.prog 166 lf166 := compF_sound (by kernel_rfl) Tryz.func166 (by kernel_rfl) cf166
noncomputable def lf173 : LFn := (compF Tryz.prog (fun _ _ => false) Tryz.f173).getD default
theorem cf173 : compF Tryz.prog (fun _ _ => false) Tryz.f173 = some lf173 := by kernel_rfl
theorem fr173 : FR Tryz.prog 173 lf173 := compF_sound (by kernel_rfl) Tryz.func173 (by kernel_rfl) cf173
end Go.Proofs.YtopbbbhhbnghpaaGreatDoor
