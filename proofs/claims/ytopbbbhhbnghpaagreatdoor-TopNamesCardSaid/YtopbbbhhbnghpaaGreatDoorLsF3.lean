import Derived.Test.YtopbbbhhbnghpaaGreatDoorLsG5
import Derived.Test.YtopbbbhhbnghpaaGreatDoorProg
import Derived.KernelRfl
set_option maxRecDepth 100000
namespace Go.Proofs.YtopbbbhhbnghpaaGreatDoor
open Go Go.LS
noncomputable def lf427 : LFn := (compF Tryz.prog (fun _ _ => false) Tryz.f427).getD default
theorem cf427 : compF Tryz.prog (fun _ _ => false) Tryz.f427 = some lf427 := by kernel_rfl
theorem fr427 : FR Tryz.prog 427 lf427 := compF_sound (by kernel_rfl) Tryz.func427 (by kernel_rfl) cf427
noncomputable def lf428 : LFn := (compF Tryz.prog (fun _ _ => false) Tryz.f428).getD default
theorem cf428 : compF Tryz.prog (fun _ _ => false) Tryz.f428 = some lf428 := by kernel_rfl
theorem fr428 : FR Tryz.prog 428 lf428 := compF_sound (by kernel_rfl) Tryz.func428 (by kernel_rfl) cf428
noncomputable def lf431 : LFn := (compF Tryz.prog (fun _ _ => false) Tryz.f431).getD default
theorem cf431 : compF Tryz.prog (fun _ _ => false) Tryz.f431 = some lf431 := by kernel_rfl
theorem fr431 : FR Tryz.prog 431 lf431 := compF_sound (by kernel_rfl) Tryz.func431 (by kernel_rfl) cf431
noncomputable def lf449 : LFn := (compF Tryz.prog (fun _ _ => false) Tryz.f449).getD default
theorem cf449 : compF Tryz.prog (fun _ _ => false) Tryz.f449 = some lf449 := by kernel_rfl
theorem fr449 : FR Tryz.prog 449 lf449 := compF_sound (by kernel_rfl) Tryz.func449 (by kernel_rfl) cf449
noncomputable def lf452 : LFn := (compF Tryz.prog (fun _ _ => false) Tryz.f452).getD default
theorem cf452 : compF Tryz.prog (fun _ _ => false) Tryz.f452 = some lf452 := by kernel_rfl
theorem fr452 : FR Tryz.prog 452 lf452 := compF_sound (by kernel_rfl) Tryz.func452 (by kernel_rfl) cf452
noncomputable def lf453 : LFn := (compF Tryz.prog (fun _ _ => false) Tryz.f453).getD default
theorem cf453 : compF Tryz.prog (fun _ _ => false) Tryz.f453 = some lf453 := by kernel_rfl
theorem fr453 : FR Tryz.prog 453 lf453 := compF_sound (by kernel_rfl) Tryz.func453 (by kernel_rfl) cf453
noncomputable def lf456 : LFn := (compF Tryz.prog (fun _ _ => false) Tryz.f456).getD default
theorem cf456 : compF Tryz.prog (fun _ _ => false) Tryz.f456 = some lf456 := by kernel_rfl
theorem fr456 : FR Tryz.prog 456 lf456 := compF_sound (by kernel_rfl) Tryz.func456 (by kernel_rfl) cf456
noncomputable def lf474 : LFn := (compF Tryz.prog (fun _ _ => false) Tryz.f474).getD default
theorem cf474 : compF Tryz.prog (fun _ _ => false) Tryz.f474 = some lf474 := by kernel_rfl
theorem fr474 : FR Tryz.prog 474 lf474 := compF_sound (by kernel_rfl) Tryz.func474 (by kernel_rfl) cf474
noncomputable def lf477 : LFn := (compF Tryz.prog (fun _ _ => false) Tryz.f477).getD default
theorem cf477 : compF Tryz.prog (fun _ _ => false) Tryz.f477 = some lf477 := by kernel_rfl
theorem fr477 : FR Tryz.prog 477 lf477 := compF_sound (by kernel_rfl) Tryz.func477 (by kernel_rfl) cf477
noncomputable def lf479 : LFn := (compF Tryz.prog (fun _ _ => false) Tryz.f479).getD default
theorem cf479 : compF Tryz.prog (fun _ _ => false) Tryz.f479 = some lf479 := by kernel_rfl
theorem fr479 : FR Tryz.prog 479 lf479 := compF_sound (by kernel_rfl) Tryz.func479 (by kernel_rfl) cf479
noncomputable def lf480 : LFn := (compF Tryz.prog (fun _ _ => false) Tryz.f480).getD default
theorem cf480 : compF Tryz.prog (fun _ _ => false) Tryz.f480 = some lf480 := by kernel_rfl
theorem fr480 : FR Tryz.prog 480 lf480 := compF_sound (by kernel_rfl) Tryz.func480 (by kernel_rfl) cf480
noncomputable def lf483 : LFn := (compF Tryz.prog (fun _ _ => false) Tryz.f483).getD default
theorem cf483 : compF Tryz.prog (fun _ _ => false) Tryz.f483 = some lf483 := by kernel_rfl
theorem fr483 : FR Tryz.prog 483 lf483 := compF_sound (by kernel_rfl) Tryz.func483 (by kernel_rfl) cf483
noncomputable def lf484 : LFn := (compF Tryz.prog (fun _ _ => false) Tryz.f484).getD default
theorem cf484 : compF Tryz.prog (fun _ _ => false) Tryz.f484 = some lf484 := by kernel_rfl
theorem fr484 : FR Tryz.prog 484 lf484 := compF_sound (by kernel_rfl) Tryz.func484 (by kernel_rfl) cf484
noncomputable def lf485 : LFn := (compF Tryz.prog (fun _ _ => false) Tryz.f485).getD default
theorem cf485 : compF Tryz.prog (fun _ _ => false) Tryz.f485 = some lf485 := by kernel_rfl
theorem fr485 : FR Tryz.prog 485 lf485 := compF_sound (by kernel_rfl) Tryz.func485 (by kernel_rfl) cf485
noncomputable def lf490 : LFn := (compF Tryz.prog (fun _ _ => false) Tryz.f490).getD default
theorem cf490 : compF Tryz.prog (fun _ _ => false) Tryz.f490 = some lf490 := by kernel_rfl
theorem fr490 : FR Tryz.prog 490 lf490 := compF_sound (by kernel_rfl) Tryz.func490 (by kernel_rfl) cf490
noncomputable def lf495 : LFn := (compF Tryz.prog (fun _ _ => false) Tryz.f495).getD default
theorem cf495 : compF Tryz.prog (fun _ _ => false) Tryz.f495 = some lf495 := by kernel_rfl
theorem fr495 : FR Tryz.prog 495 lf495 := compF_sound (by kernel_rfl) Tryz.func495 (by kernel_rfl) cf495
noncomputable def lf496 : LFn := (compF Tryz.prog (fun _ _ => false) Tryz.f496).getD default
theorem cf496 : compF Tryz.prog (fun _ _ => false) Tryz.f496 = some lf496 := by kernel_rfl
theorem fr496 : FR Tryz.prog 496 lf496 := compF_sound (by kernel_rfl) Tryz.func496 (by kernel_rfl) cf496
noncomputable def lf499 : LFn := (compF Tryz.prog (fun _ _ => false) Tryz.f499).getD default
theorem cf499 : compF Tryz.prog (fun _ _ => false) Tryz.f499 = some lf499 := by kernel_rfl
theorem fr499 : FR Tryz.prog 499 lf499 := compF_sound (by kernel_rfl) Tryz.func499 (by kernel_rfl) cf499
noncomputable def lf500 : LFn := (compF Tryz.prog (fun _ _ => false) Tryz.f500).getD default
theorem cf500 : compF Tryz.prog (fun _ _ => false) Tryz.f500 = some lf500 := by kernel_rfl
theorem fr500 : FR Tryz.prog 500 lf500 := compF_sound (by kernel_rfl) Tryz.func500 (by kernel_rfl) cf500
noncomputable def lf505 : LFn := (compF Tryz.prog (fun _ _ => false) Tryz.f505).getD default
theorem cf505 : compF Tryz.prog (fun _ _ => false) Tryz.f505 = some lf505 := by kernel_rfl
theorem fr505 : FR Tryz.prog 505 lf505 := compF_sound (by kernel_rfl) Tryz.func505 (by kernel_rfl) cf505
noncomputable def lf506 : LFn := (compF Tryz.prog (fun _ _ => false) Tryz.f506).getD default
theorem cf506 : compF Tryz.prog (fun _ _ => false) Tryz.f506 = some lf506 := by kernel_rfl
theorem fr506 : FR Tryz.prog 506 lf506 := compF_sound (by kernel_rfl) Tryz.func506 (by kernel_rfl) cf506
noncomputable def lf537 : LFn := (compF Tryz.prog (fun _ _ => false) Tryz.f537).getD default
theorem cf537 : compF Tryz.prog (fun _ _ => false) Tryz.f537 = some lf537 := by kernel_rfl
theorem fr537 : FR Tryz.prog 537 lf537 := compF_sound (by kernel_rfl) Tryz.func537 (by kernel_rfl) cf537
noncomputable def lf538 : LFn := (compF Tryz.prog (fun _ _ => false) Tryz.f538).getD default
theorem cf538 : compF Tryz.prog (fun _ _ => false) Tryz.f538 = some lf538 := by kernel_rfl
theorem fr538 : FR Tryz.prog 538 lf538 := compF_sound (by kernel_rfl) Tryz.func538 (by kernel_rfl) cf538
noncomputable def lf547 : LFn := (compF Tryz.prog (fun _ _ => false) Tryz.f547).getD default
theorem cf547 : compF Tryz.prog (fun _ _ => false) Tryz.f547 = some lf547 := by kernel_rfl
theorem fr547 : FR Tryz.prog 547 lf547 := compF_sound (by kernel_rfl) Tryz.func547 (by kernel_rfl) cf547
noncomputable def lf559 : LFn := (compF Tryz.prog (fun _ _ => false) Tryz.f559).getD default
theorem cf559 : compF Tryz.prog (fun _ _ => false) Tryz.f559 = some lf559 := by kernel_rfl
theorem fr559 : FR Tryz.prog 559 lf559 := compF_sound (by kernel_rfl) Tryz.func559 (by kernel_rfl) cf559
noncomputable def lf561 : LFn := (compF Tryz.prog (fun _ _ => false) Tryz.f561).getD default
theorem cf561 : compF Tryz.prog (fun _ _ => false) Tryz.f561 = some lf561 := by kernel_rfl
theorem fr561 : FR Tryz.prog 561 lf561 := compF_sound (by kernel_rfl) Tryz.func561 (by kernel_rfl) cf561
noncomputable def lf591 : LFn := (compF Tryz.prog (fun _ _ => false) Tryz.f591).getD default
theorem cf591 : compF Tryz.prog (fun _ _ => false) Tryz.f591 = some lf591 := by kernel_rfl
theorem fr591 : FR Tryz.prog 591 lf591 := compF_sound (by kernel_rfl) Tryz.func591 (by kernel_rfl) cf591
end Go.Proofs.YtopbbbhhbnghpaaGreatDoor
