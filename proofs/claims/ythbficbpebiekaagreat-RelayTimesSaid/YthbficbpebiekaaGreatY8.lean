import Derived.Test.YthbficbpebiekaaGreatY6
import Derived.Test.YthbficbpebiekaaGreatY5
import Derived.Test.YthbficbpebiekaaGreatY7
set_option linter.all false
open List renaming flatMap->nA
open Option.some renaming inj->nB
open Go.Value renaming bool->nD
open Bool renaming eq_false_iff->nE
namespace Go.Proofs.YthbficbpebiekaaGreat
open Go.KL
set_option maxHeartbeats 4000000
theorem wDw (p0:wAA) (pA0_0_0:Option Addr) (pc0_0_0:Nat) (pA0_2:Option Addr) (pc0_2:Nat) (p1:Int) (w:World) (U:PHeap) (hS:St0 w U []) (ha0:Sl U 1 pA0_0_0 pc0_0_0 p0.Rules.Classes.length (nA KL.encI p0.Rules.Classes)) (ha1:SlR U wCS pA0_2 pc0_2 p0.Teams) {r:Bool} (hm:wBf p0 p1=some r):Gv Tryz.prog 3 [.agg #[.slice pA0_0_0 p0.Rules.Classes.length pc0_0_0,jV p0.Rules.Each,jV p0.Rules.Laps,jV p0.Rules.Spare,jV p0.Rules.Loop,jV p0.Rules.Unused,jV p0.Start,.slice pA0_2 p0.Teams.length pc0_2],jV p1] w (wCj w [] U (fun U_ L_ v=>v=.bool r/\L_=[])):=by
 unfold wBf at hm
 refine Gv.of Tryz.func3 Z Tryz.ntmps3 Tryz.results3 Z (sR (.fx 0 (.fl 1 (.nil)) .stop) Z ?_)
 let B0:List Value:=[.slice pA0_0_0 p0.Rules.Classes.length pc0_0_0,jV p0.Rules.Each,jV p0.Rules.Laps,jV p0.Rules.Spare,jV p0.Rules.Loop,jV p0.Rules.Unused,jV p0.Start,.slice pA0_2 p0.Teams.length pc0_2]
 refine Ze (cs:=B0) rfl rfl rfl rfl rfl rfl (by rfl) hS ?_
 intro W1 b2 hS3
 refine oA Z Z (eN (zB (sR (.fl 0 (.fx 1 (.nil) .stop)) Z (oL Z (hS3.ldBA (j:=0) Z Z Z Zd ZH (vs:=B0) Z Z) (bnK hm fun x5 h6 hm7=>zQ 0 Z Z Z Z (zR Z Z Tryz.call9 (zH Z ze) Z) hS3 (fun hs=>wFV p0 pA0_0_0 pc0_0_0 pA0_2 pc0_2 W1 U hs ha0 ha1 h6) (.inr Z) ?_)))))
 rintro U8 L9 v10 W11 le12 hS13 ⟨rfl,rfl⟩
 have hS14:sW w U U8 [.blk b2 27 B0] W11:=hS13
 refine eN (ifc hm7 ?_ ?_)
 ·intro c15 hm16
  refine zp (congrArg nD c15.out) (sR (.fx 0 (.fl 1 (.nil)) .stop) Z (bnK hm16 fun x17 h18 hm19=>zQ 0 Z Z Z Z (zR Z Z Tryz.call10 ze Z) hS14 (fun hs=>wDT W11 U8 hs h18) (.inr Z) ?_))
  rintro U20 L21 v22 W23 le24 hS25 ⟨rfl,rfl⟩
  have hS26:sW w U U20 [.blk b2 27 B0] W23:=hS25
  refine oA Z Z (eN (zM (zC ?_)))
  have hE:=nB hm19;first | subst r | cases hE
  exact ⟨rfl,_,(zt rfl),U20,_,(hS26.pick [] _ (by decide) rfl),rfl,rfl⟩
 ·intro c15 hm27
  refine zo (congrArg nD (nE.2 c15.out)) (kN ?_)
  have q:=bnd hm27
  obtain ⟨⟨l30,x33,x34,x35,x36,x37,x38,l39,l45,x48,x49,x50,x51,x52,x53,l54⟩,hx59,hm60⟩:=q
  try dsimp only at hm60
  refine CK.cut (fun σ_ w_=>∃ (U_:PHeap) (b29:Nat) (A31:Option Addr) (c32:Nat) (A40:Option Addr) (c41:Nat) (cs42:List Value) (b44:Nat) (A46:Option Addr) (c47:Nat) (A55:Option Addr) (c56:Nat) (cs57:List Value),σ_ 1=jV p1/\σ_ 2=.pointer (some ⟨b2,0,none⟩)/\σ_ 5=.pointer (some ⟨b29,0,none⟩)/\σ_ 6=.pointer (some ⟨b44,0,none⟩)/\PHeap.Le U8 U_/\sW w U U_ [.blk b2 27 B0,.blk b29 27 [.slice A31 l30.length c32,jV x33,jV x34,jV x35,jV x36,jV x37,jV x38,.slice A40 l39.length c41],.row A31 c32 3 1 (nA KL.encI l30),.row A40 c41 127 3 cs42,.blk b44 34 [.slice A46 l45.length c47,jV x48,jV x49,jV x50,jV x51,jV x52,jV x53,.slice A55 l54.length c56],.row A46 c47 3 1 (nA KL.encI l45),.row A55 c56 160 3 cs57] w_/\RlL U_ wCS l39 cs42/\RlL U_ wET l54 cs57) ?_ ?_
  ·refine bnK hx59 fun x63 h64 hm115=>bnK hm115 fun x83 h84 hm116=>Zv Zt [1,2,1,2,2,2,0,0] (.fl 0 (.fl 2 (.fx 1 (.fx 3 (.fx 4 (.fx 5 (.fx 6 (.fx 7 (.nil) (.stop)) (.stop)) (.stop)) (.fx 5 (.fx 4 (.fx 6 (.fx 7 (.nil) (.stop)) (.stop)) (.stop)) (.stop))) (.fx 4 (.fx 3 (.fx 5 (.fx 6 (.fx 7 (.nil) (.stop)) (.stop)) (.stop)) (.fx 5 (.fx 3 (.fx 6 (.fx 7 (.nil) (.stop)) (.stop)) (.stop)) (.stop))) (.fx 5 (.fx 3 (.fx 4 (.fx 6 (.fx 7 (.nil) (.stop)) (.stop)) (.stop)) (.fx 4 (.fx 3 (.fx 6 (.fx 7 (.nil) (.stop)) (.stop)) (.stop)) (.stop))) (.stop)))) (.fx 4 (.fx 1 (.fx 3 (.fx 5 (.fx 6 (.fx 7 (.nil) (.stop)) (.stop)) (.stop)) (.fx 5 (.fx 3 (.fx 6 (.fx 7 (.nil) (.stop)) (.stop)) (.stop)) (.stop))) (.fx 5 (.fx 1 (.fx 3 (.fx 6 (.fx 7 (.nil) (.stop)) (.stop)) (.stop)) (.stop)) (.stop))) (.fx 5 (.fx 1 (.fx 3 (.fx 4 (.fx 6 (.fx 7 (.nil) (.stop)) (.stop)) (.stop)) (.fx 4 (.fx 3 (.fx 6 (.fx 7 (.nil) (.stop)) (.stop)) (.stop)) (.stop))) (.fx 4 (.fx 1 (.fx 3 (.fx 6 (.fx 7 (.nil) (.stop)) (.stop)) (.stop)) (.stop)) (.stop))) (.stop)))))) (by kernel_rfl) ?_
   have hS117:=hS14.drew
   generalize hw_W118:({ W11 with drawn:=W11.drawn + 1 }:World)=W118 at hS117 ⊢
   refine OKS.cutD (s:=.nil) (M:=fun σ_ w_=>∃ (U_:PHeap) (b412:Nat) (A413:Option Addr) (c414:Nat) (A415:Option Addr) (c416:Nat) (cs417:List Value) (b419:Nat) (A420:Option Addr) (c421:Nat) (A422:Option Addr) (c423:Nat) (cs424:List Value),σ_ 1=jV p1/\σ_ 2=.pointer (some ⟨b2,0,none⟩)/\σ_ 5=.pointer (some ⟨b412,0,none⟩)/\σ_ 6=.pointer (some ⟨b419,0,none⟩)/\σ_ 20=.agg B0.toArray/\σ_ 21=.agg #[.slice A413 x63.Rules.Classes.length c414,jV x63.Rules.Each,jV x63.Rules.Laps,jV x63.Rules.Spare,jV x63.Rules.Loop,jV x63.Rules.Unused,jV x63.Start,.slice A415 x63.Teams.length c416]/\σ_ 22=.agg B0.toArray/\σ_ 23=.agg #[.slice A420 x83.Rules.Classes.length c421,jV x83.Rules.Each,jV x83.Rules.Laps,jV x83.Rules.Spare,jV x83.Rules.Loop,jV x83.Rules.Unused,jV x83.Start,.slice A422 x83.Teams.length c423]/\PHeap.Le U8 U_/\sW w U U_ [.blk b2 27 B0,.blk b412 27 [.slice A413 x63.Rules.Classes.length c414,jV x63.Rules.Each,jV x63.Rules.Laps,jV x63.Rules.Spare,jV x63.Rules.Loop,jV x63.Rules.Unused,jV x63.Start,.slice A415 x63.Teams.length c416],.row A413 c414 3 1 (nA KL.encI x63.Rules.Classes),.row A415 c416 127 3 cs417,.blk b419 34 [.slice A420 x83.Rules.Classes.length c421,jV x83.Rules.Each,jV x83.Rules.Laps,jV x83.Rules.Spare,jV x83.Rules.Loop,jV x83.Rules.Unused,jV x83.Start,.slice A422 x83.Teams.length c423],.row A420 c421 3 1 (nA KL.encI x83.Rules.Classes),.row A422 c423 160 3 cs424] w_/\RlL U_ wCS x63.Teams cs417/\RlL U_ wET x83.Teams cs424) ?_ fun ko425=>?_
   ·rintro σ426 W427 ⟨U428,b412,A413,c414,A415,c416,cs417,b419,A420,c421,A422,c423,cs424,f431,f432,f433,f434,f435,f436,f437,f438,le429,hS430,h439,h440⟩
    refine zj ?_
    cases hm116
    exact zF ⟨Z,⟨U428,b412,A413,c414,A415,c416,cs417,b419,A420,c421,A422,c423,cs424,f431,f432,f433,f434,le429,hS430,h439,h440⟩⟩
   let B1:List Value:=[.slice none 0 0,jV 0,jV 0,jV 0,jV 0,jV 0,jV 0,.slice none 0 0]
   refine OKS.cutD (s:=.fx 7 (.nil) (.stop)) (M:=fun σ_ w_=>∃ (U_:PHeap) (b472:Nat) (A473:Option Addr) (c474:Nat) (A475:Option Addr) (c476:Nat) (cs477:List Value) (b479:Nat) (A480:Option Addr) (c481:Nat) (A482:Option Addr) (c483:Nat) (cs484:List Value),σ_ 1=jV p1/\σ_ 2=.pointer (some ⟨b2,0,none⟩)/\σ_ 5=.pointer (some ⟨b472,0,none⟩)/\σ_ 6=.pointer (some ⟨b479,0,none⟩)/\σ_ 20=.agg B0.toArray/\σ_ 21=.agg #[.slice A473 x63.Rules.Classes.length c474,jV x63.Rules.Each,jV x63.Rules.Laps,jV x63.Rules.Spare,jV x63.Rules.Loop,jV x63.Rules.Unused,jV x63.Start,.slice A475 x63.Teams.length c476]/\σ_ 22=.agg B0.toArray/\σ_ 23=.agg #[.slice A480 x83.Rules.Classes.length c481,jV x83.Rules.Each,jV x83.Rules.Laps,jV x83.Rules.Spare,jV x83.Rules.Loop,jV x83.Rules.Unused,jV x83.Start,.slice A482 x83.Teams.length c483]/\PHeap.Le U8 U_/\sW w U U_ [.blk b2 27 B0,.blk b472 27 [.slice A473 x63.Rules.Classes.length c474,jV x63.Rules.Each,jV x63.Rules.Laps,jV x63.Rules.Spare,jV x63.Rules.Loop,jV x63.Rules.Unused,jV x63.Start,.slice A475 x63.Teams.length c476],.row A473 c474 3 1 (nA KL.encI x63.Rules.Classes),.row A475 c476 127 3 cs477,.blk b479 34 B1,.row A480 c481 3 1 (nA KL.encI x83.Rules.Classes),.row A482 c483 160 3 cs484] w_/\RlL U_ wCS x63.Teams cs477/\RlL U_ wET x83.Teams cs484) ?_ fun ko485=>?_
   ·rintro σ486 W487 ⟨U488,b472,A473,c474,A475,c476,cs477,b479,A480,c481,A482,c483,cs484,f491,f492,f493,f494,f495,f496,f497,f498,le489,hS490,h499,h500⟩
    let B2:List Value:=[.slice A480 x83.Rules.Classes.length c481,jV x83.Rules.Each,jV x83.Rules.Laps,jV x83.Rules.Spare,jV x83.Rules.Loop,jV x83.Rules.Unused,jV x83.Start,.slice A482 x83.Teams.length c483]
    refine ZE (j:=4) (vs:=B2) Z Z Z Z hS490 Z f494 f498 Z Zl (zD Z) Z Z Z ?_
    intro W501 hS502
    have hS503:sW w U U488 [.blk b2 27 B0,.blk b472 27 [.slice A473 x63.Rules.Classes.length c474,jV x63.Rules.Each,jV x63.Rules.Laps,jV x63.Rules.Spare,jV x63.Rules.Loop,jV x63.Rules.Unused,jV x63.Start,.slice A475 x63.Teams.length c476],.row A473 c474 3 1 (nA KL.encI x63.Rules.Classes),.row A475 c476 127 3 cs477,.blk b479 34 B2,.row A480 c481 3 1 (nA KL.encI x83.Rules.Classes),.row A482 c483 160 3 cs484] W501:=hS502
    exact ko425 _ _ ⟨U488,b472,A473,c474,A475,c476,cs477,b479,A480,c481,A482,c483,cs484,f491,f492,f493,f494,f495,f496,f497,f498,le489,hS503,h499,h500⟩
   refine OKS.cutD (s:=.fx 6 (.fx 7 (.nil) (.stop)) (.stop)) (M:=fun σ_ w_=>∃ (U_:PHeap) (b519:Nat) (b521:Nat) (A522:Option Addr) (c523:Nat) (A524:Option Addr) (c525:Nat) (cs526:List Value) (A527:Option Addr) (c528:Nat) (A529:Option Addr) (c530:Nat) (cs531:List Value),σ_ 1=jV p1/\σ_ 2=.pointer (some ⟨b2,0,none⟩)/\σ_ 5=.pointer (some ⟨b519,0,none⟩)/\σ_ 6=.pointer (some ⟨b521,0,none⟩)/\σ_ 20=.agg B0.toArray/\σ_ 21=.agg #[.slice A522 x63.Rules.Classes.length c523,jV x63.Rules.Each,jV x63.Rules.Laps,jV x63.Rules.Spare,jV x63.Rules.Loop,jV x63.Rules.Unused,jV x63.Start,.slice A524 x63.Teams.length c525]/\σ_ 22=.agg B0.toArray/\σ_ 23=.agg #[.slice A527 x83.Rules.Classes.length c528,jV x83.Rules.Each,jV x83.Rules.Laps,jV x83.Rules.Spare,jV x83.Rules.Loop,jV x83.Rules.Unused,jV x83.Start,.slice A529 x83.Teams.length c530]/\PHeap.Le U8 U_/\sW w U U_ [.blk b2 27 B0,.blk b519 27 B1,.blk b521 34 B1,.row A522 c523 3 1 (nA KL.encI x63.Rules.Classes),.row A524 c525 127 3 cs526,.row A527 c528 3 1 (nA KL.encI x83.Rules.Classes),.row A529 c530 160 3 cs531] w_/\RlL U_ wCS x63.Teams cs526/\RlL U_ wET x83.Teams cs531) ?_ fun ko532=>?_
   ·rintro σ533 W534 ⟨U535,b519,b521,A522,c523,A524,c525,cs526,A527,c528,A529,c530,cs531,f538,f539,f540,f541,f542,f543,f544,f545,le536,hS537,h546,h547⟩
    let B3:List Value:=[.slice A522 x63.Rules.Classes.length c523,jV x63.Rules.Each,jV x63.Rules.Laps,jV x63.Rules.Spare,jV x63.Rules.Loop,jV x63.Rules.Unused,jV x63.Start,.slice A524 x63.Teams.length c525]
    refine ZE (j:=1) (vs:=B3) Z Z Z Z hS537 Z f540 f543 Z ZH (zD Z) Z Z Z ?_
    intro W548 hS549
    have hS550:sW w U U535 [.blk b2 27 B0,.blk b519 27 B3,.blk b521 34 B1,.row A522 c523 3 1 (nA KL.encI x63.Rules.Classes),.row A524 c525 127 3 cs526,.row A527 c528 3 1 (nA KL.encI x83.Rules.Classes),.row A529 c530 160 3 cs531] W548:=hS549
    exact ko485 _ _ ⟨U535,b519,A522,c523,A524,c525,cs526,b521,A527,c528,A529,c530,cs531,f538,f539,f540,f541,f542,f543,f544,f545,le536,(hS550.pick [0,1,3,4,2,5,6] _ (by decide) rfl),h546,h547⟩
   refine OKS.cutD (s:=.fx 3 (.fx 6 (.fx 7 (.nil) (.stop)) (.stop)) (.stop)) (M:=fun σ_ w_=>∃ (U_:PHeap) (b566:Nat) (b568:Nat) (A569:Option Addr) (c570:Nat) (A571:Option Addr) (c572:Nat) (cs573:List Value),σ_ 1=jV p1/\σ_ 2=.pointer (some ⟨b2,0,none⟩)/\σ_ 5=.pointer (some ⟨b566,0,none⟩)/\σ_ 6=.pointer (some ⟨b568,0,none⟩)/\σ_ 20=.agg B0.toArray/\σ_ 21=.agg #[.slice A569 x63.Rules.Classes.length c570,jV x63.Rules.Each,jV x63.Rules.Laps,jV x63.Rules.Spare,jV x63.Rules.Loop,jV x63.Rules.Unused,jV x63.Start,.slice A571 x63.Teams.length c572]/\σ_ 22=.agg B0.toArray/\PHeap.Le U8 U_/\sW w U U_ [.blk b2 27 B0,.blk b566 27 B1,.blk b568 34 B1,.row A569 c570 3 1 (nA KL.encI x63.Rules.Classes),.row A571 c572 127 3 cs573] w_/\RlL U_ wCS x63.Teams cs573) ?_ fun ko574=>?_
   ·rintro σ575 W576 ⟨U577,b566,b568,A569,c570,A571,c572,cs573,f580,f581,f582,f583,f584,f585,f586,le578,hS579,h587⟩
    have h588:=ha0.le le12
    have h589:=h588.le le578
    have h590:=ha1.le le12
    have h591:=h590.le le578
    refine zQ 0 Z Z Z Z (zR Z Z Tryz.call12 (zH f586 ze) Z) hS579 (fun hs=>wCY p0 pA0_0_0 pc0_0_0 pA0_2 pc0_2 W576 U577 hs h589 h591 h84) (.inr Z) ?_
    rintro U593 L594 v595 W596 le597 hS598 ⟨A599,c600,A601,c602,c603,rfl,rfl,h606⟩
    have hS607:sW w U U593 [.row A599 c600 3 1 (nA KL.encI x83.Rules.Classes),.row A601 c602 160 3 c603,.blk b2 27 B0,.blk b566 27 B1,.blk b568 34 B1,.row A569 c570 3 1 (nA KL.encI x63.Rules.Classes),.row A571 c572 127 3 cs573] W596:=hS598
    have h622:=h587.le le597
    exact ko532 _ _ ⟨U593,b566,b568,A569,c570,A571,c572,cs573,A599,c600,A601,c602,c603,f580,f581,f582,f583,f584,f585,f586,rfl,(le578.trans le597),(hS607.pick [2,3,4,5,6,0,1] _ (by decide) rfl),h622,h606⟩
   refine OKS.cutD (s:=.fx 4 (.fx 6 (.fx 7 (.nil) (.stop)) (.stop)) (.stop)) (M:=fun σ_ w_=>∃ (U_:PHeap) (b624:Nat) (A625:Option Addr) (c626:Nat) (A627:Option Addr) (c628:Nat) (cs629:List Value) (A630:Option Addr) (c631:Nat) (A632:Option Addr) (c633:Nat) (cs634:List Value),σ_ 1=jV p1/\σ_ 2=.pointer (some ⟨b2,0,none⟩)/\σ_ 6=.pointer (some ⟨b624,0,none⟩)/\σ_ 20=.agg B0.toArray/\σ_ 21=.agg #[.slice A625 x63.Rules.Classes.length c626,jV x63.Rules.Each,jV x63.Rules.Laps,jV x63.Rules.Spare,jV x63.Rules.Loop,jV x63.Rules.Unused,jV x63.Start,.slice A627 x63.Teams.length c628]/\σ_ 22=.agg B0.toArray/\σ_ 23=.agg #[.slice A630 x83.Rules.Classes.length c631,jV x83.Rules.Each,jV x83.Rules.Laps,jV x83.Rules.Spare,jV x83.Rules.Loop,jV x83.Rules.Unused,jV x83.Start,.slice A632 x83.Teams.length c633]/\PHeap.Le U8 U_/\sW w U U_ [.blk b2 27 B0,.blk b624 34 B1,.row A625 c626 3 1 (nA KL.encI x63.Rules.Classes),.row A627 c628 127 3 cs629,.row A630 c631 3 1 (nA KL.encI x83.Rules.Classes),.row A632 c633 160 3 cs634] w_/\RlL U_ wCS x63.Teams cs629/\RlL U_ wET x83.Teams cs634) ?_ fun ko635=>?_
   ·rintro σ636 W637 ⟨U638,b624,A625,c626,A627,c628,cs629,A630,c631,A632,c633,cs634,f641,f642,f643,f644,f645,f646,f647,le639,hS640,h648,h649⟩
    refine zq (cs:=B1) Z Z Z Z Z Zz Z hS640 ?_
    intro W650 b651 hS652
    exact ko532 _ _ ⟨U638,b651,b624,A625,c626,A627,c628,cs629,A630,c631,A632,c633,cs634,f641,f642,rfl,f643,f644,f645,f646,f647,le639,(hS652.pick [1,0,2,3,4,5,6] _ (by decide) rfl),h648,h649⟩
   refine OKS.cutD (s:=.fx 5 (.fx 6 (.fx 7 (.nil) (.stop)) (.stop)) (.stop)) (M:=fun σ_ w_=>∃ (U_:PHeap) (b669:Nat) (A670:Option Addr) (c671:Nat) (A672:Option Addr) (c673:Nat) (cs674:List Value) (A675:Option Addr) (c676:Nat) (A677:Option Addr) (c678:Nat) (cs679:List Value),σ_ 1=jV p1/\σ_ 2=.pointer (some ⟨b2,0,none⟩)/\σ_ 5=.pointer (some ⟨b669,0,none⟩)/\σ_ 20=.agg B0.toArray/\σ_ 21=.agg #[.slice A670 x63.Rules.Classes.length c671,jV x63.Rules.Each,jV x63.Rules.Laps,jV x63.Rules.Spare,jV x63.Rules.Loop,jV x63.Rules.Unused,jV x63.Start,.slice A672 x63.Teams.length c673]/\σ_ 22=.agg B0.toArray/\σ_ 23=.agg #[.slice A675 x83.Rules.Classes.length c676,jV x83.Rules.Each,jV x83.Rules.Laps,jV x83.Rules.Spare,jV x83.Rules.Loop,jV x83.Rules.Unused,jV x83.Start,.slice A677 x83.Teams.length c678]/\PHeap.Le U8 U_/\sW w U U_ [.blk b2 27 B0,.blk b669 27 B1,.row A670 c671 3 1 (nA KL.encI x63.Rules.Classes),.row A672 c673 127 3 cs674,.row A675 c676 3 1 (nA KL.encI x83.Rules.Classes),.row A677 c678 160 3 cs679] w_/\RlL U_ wCS x63.Teams cs674/\RlL U_ wET x83.Teams cs679) ?_ fun ko680=>?_
   ·rintro σ681 W682 ⟨U683,b669,A670,c671,A672,c673,cs674,A675,c676,A677,c678,cs679,f686,f687,f688,f689,f690,f691,f692,le684,hS685,h693,h694⟩
    refine zq (cs:=B1) Z Z Z Z Z yA Z hS685 ?_
    intro W695 b696 hS697
    exact ko532 _ _ ⟨U683,b669,b696,A670,c671,A672,c673,cs674,A675,c676,A677,c678,cs679,f686,f687,f688,rfl,f689,f690,f691,f692,le684,(hS697.pick [1,2,0,3,4,5,6] _ (by decide) rfl),h693,h694⟩
   refine OKS.cutD (s:=.fx 1 (.fx 3 (.fx 6 (.fx 7 (.nil) (.stop)) (.stop)) (.stop)) (.stop)) (M:=fun σ_ w_=>∃ (U_:PHeap) (b714:Nat) (b716:Nat),σ_ 1=jV p1/\σ_ 2=.pointer (some ⟨b2,0,none⟩)/\σ_ 5=.pointer (some ⟨b714,0,none⟩)/\σ_ 6=.pointer (some ⟨b716,0,none⟩)/\σ_ 20=.agg B0.toArray/\σ_ 22=.agg B0.toArray/\PHeap.Le U8 U_/\sW w U U_ [.blk b2 27 B0,.blk b714 27 B1,.blk b716 34 B1] w_) ?_ fun ko717=>?_
   ·rintro σ718 W719 ⟨U720,b714,b716,f723,f724,f725,f726,f727,f728,le721,hS722⟩
    have h729:=ha0.le le12
    have h730:=h729.le le721
    have h731:=ha1.le le12
    have h732:=h731.le le721
    refine zQ 0 Z Z Z Z (zR Z Z Tryz.call11 (zH f727 ze) Z) hS722 (fun hs=>wBq p0 pA0_0_0 pc0_0_0 pA0_2 pc0_2 W719 U720 hs h730 h732 h64) (.inr Z) ?_
    rintro U734 L735 v736 W737 le738 hS739 ⟨A740,c741,A742,c743,c744,rfl,rfl,h747⟩
    have hS748:sW w U U734 [.row A740 c741 3 1 (nA KL.encI x63.Rules.Classes),.row A742 c743 127 3 c744,.blk b2 27 B0,.blk b714 27 B1,.blk b716 34 B1] W737:=hS739
    exact ko574 _ _ ⟨U734,b714,b716,A740,c741,A742,c743,c744,f723,f724,f725,f726,f727,rfl,f728,(le721.trans le738),(hS748.pick [2,3,4,0,1] _ (by decide) rfl),h747⟩
   refine OKS.cutD (s:=.fx 3 (.fx 4 (.fx 6 (.fx 7 (.nil) (.stop)) (.stop)) (.stop)) (.fx 4 (.fx 3 (.fx 6 (.fx 7 (.nil) (.stop)) (.stop)) (.stop)) (.stop))) (M:=fun σ_ w_=>∃ (U_:PHeap) (b759:Nat) (A760:Option Addr) (c761:Nat) (A762:Option Addr) (c763:Nat) (cs764:List Value),σ_ 1=jV p1/\σ_ 2=.pointer (some ⟨b2,0,none⟩)/\σ_ 6=.pointer (some ⟨b759,0,none⟩)/\σ_ 20=.agg B0.toArray/\σ_ 21=.agg #[.slice A760 x63.Rules.Classes.length c761,jV x63.Rules.Each,jV x63.Rules.Laps,jV x63.Rules.Spare,jV x63.Rules.Loop,jV x63.Rules.Unused,jV x63.Start,.slice A762 x63.Teams.length c763]/\σ_ 22=.agg B0.toArray/\PHeap.Le U8 U_/\sW w U U_ [.blk b2 27 B0,.blk b759 34 B1,.row A760 c761 3 1 (nA KL.encI x63.Rules.Classes),.row A762 c763 127 3 cs764] w_/\RlL U_ wCS x63.Teams cs764) ?_ fun ko765=>?_
   ·rintro σ766 W767 ⟨U768,b759,A760,c761,A762,c763,cs764,f771,f772,f773,f774,f775,f776,le769,hS770,h777⟩
    refine yd ?_ ?_
    ·have h778:=ha0.le le12
     have h779:=h778.le le769
     have h780:=ha1.le le12
     have h781:=h780.le le769
     refine zQ 0 Z Z Z Z (zR Z Z Tryz.call12 (zH f776 ze) Z) hS770 (fun hs=>wCY p0 pA0_0_0 pc0_0_0 pA0_2 pc0_2 W767 U768 hs h779 h781 h84) (.inr Z) ?_
     rintro U783 L784 v785 W786 le787 hS788 ⟨A789,c790,A791,c792,c793,rfl,rfl,h796⟩
     have hS797:sW w U U783 [.row A789 c790 3 1 (nA KL.encI x83.Rules.Classes),.row A791 c792 160 3 c793,.blk b2 27 B0,.blk b759 34 B1,.row A760 c761 3 1 (nA KL.encI x63.Rules.Classes),.row A762 c763 127 3 cs764] W786:=hS788
     have h810:=h777.le le787
     exact ko635 _ _ ⟨U783,b759,A760,c761,A762,c763,cs764,A789,c790,A791,c792,c793,f771,f772,f773,f774,f775,f776,rfl,(le769.trans le787),(hS797.pick [2,3,4,5,0,1] _ (by decide) rfl),h810,h796⟩
    ·refine zq (cs:=B1) Z Z Z Z Z Zz Z hS770 ?_
     intro W811 b812 hS813
     exact ko574 _ _ ⟨U768,b812,b759,A760,c761,A762,c763,cs764,f771,f772,rfl,f773,f774,f775,f776,le769,(hS813.pick [1,0,2,3,4] _ (by decide) rfl),h777⟩
   refine OKS.cutD (s:=.fx 3 (.fx 5 (.fx 6 (.fx 7 (.nil) (.stop)) (.stop)) (.stop)) (.fx 5 (.fx 3 (.fx 6 (.fx 7 (.nil) (.stop)) (.stop)) (.stop)) (.stop))) (M:=fun σ_ w_=>∃ (U_:PHeap) (b825:Nat) (A826:Option Addr) (c827:Nat) (A828:Option Addr) (c829:Nat) (cs830:List Value),σ_ 1=jV p1/\σ_ 2=.pointer (some ⟨b2,0,none⟩)/\σ_ 5=.pointer (some ⟨b825,0,none⟩)/\σ_ 20=.agg B0.toArray/\σ_ 21=.agg #[.slice A826 x63.Rules.Classes.length c827,jV x63.Rules.Each,jV x63.Rules.Laps,jV x63.Rules.Spare,jV x63.Rules.Loop,jV x63.Rules.Unused,jV x63.Start,.slice A828 x63.Teams.length c829]/\σ_ 22=.agg B0.toArray/\PHeap.Le U8 U_/\sW w U U_ [.blk b2 27 B0,.blk b825 27 B1,.row A826 c827 3 1 (nA KL.encI x63.Rules.Classes),.row A828 c829 127 3 cs830] w_/\RlL U_ wCS x63.Teams cs830) ?_ fun ko831=>?_
   ·rintro σ832 W833 ⟨U834,b825,A826,c827,A828,c829,cs830,f837,f838,f839,f840,f841,f842,le835,hS836,h843⟩
    refine yd ?_ ?_
    ·have h844:=ha0.le le12
     have h845:=h844.le le835
     have h846:=ha1.le le12
     have h847:=h846.le le835
     refine zQ 0 Z Z Z Z (zR Z Z Tryz.call12 (zH f842 ze) Z) hS836 (fun hs=>wCY p0 pA0_0_0 pc0_0_0 pA0_2 pc0_2 W833 U834 hs h845 h847 h84) (.inr Z) ?_
     rintro U849 L850 v851 W852 le853 hS854 ⟨A855,c856,A857,c858,c859,rfl,rfl,h862⟩
     have hS863:sW w U U849 [.row A855 c856 3 1 (nA KL.encI x83.Rules.Classes),.row A857 c858 160 3 c859,.blk b2 27 B0,.blk b825 27 B1,.row A826 c827 3 1 (nA KL.encI x63.Rules.Classes),.row A828 c829 127 3 cs830] W852:=hS854
     have h876:=h843.le le853
     exact ko680 _ _ ⟨U849,b825,A826,c827,A828,c829,cs830,A855,c856,A857,c858,c859,f837,f838,f839,f840,f841,f842,rfl,(le835.trans le853),(hS863.pick [2,3,4,5,0,1] _ (by decide) rfl),h876,h862⟩
    ·refine zq (cs:=B1) Z Z Z Z Z yA Z hS836 ?_
     intro W877 b878 hS879
     exact ko574 _ _ ⟨U834,b825,b878,A826,c827,A828,c829,cs830,f837,f838,f839,rfl,f840,f841,f842,le835,(hS879.pick [1,2,0,3,4] _ (by decide) rfl),h843⟩
   refine oL Z (hS117.ldBA (j:=0) Z Z Z Zd ZH (vs:=B0) Z Z) (oL Z (hS117.ldBA (j:=0) Z Z Z Zd ZH (vs:=B0) Z Z) (yd ?_ ?_))
   ·have h890:=ha0.le le12
    have h891:=ha1.le le12
    refine zQ 0 Z Z Z Z (zR Z Z Tryz.call11 (zH Z ze) Z) hS117 (fun hs=>wBq p0 pA0_0_0 pc0_0_0 pA0_2 pc0_2 W118 U8 hs h890 h891 h64) (.inr Z) ?_
    rintro U893 L894 v895 W896 le897 hS898 ⟨A899,c900,A901,c902,c903,rfl,rfl,h906⟩
    let B4:Res:=.row A899 c900 3 1 (nA KL.encI x63.Rules.Classes)
    have hS907:sW w U U893 [B4,.row A901 c902 127 3 c903,.blk b2 27 B0] W896:=hS898
    refine yd ?_ ?_
    ·have h908:=h890.le le897
     have h909:=h891.le le897
     refine zQ 0 Z Z Z Z (zR Z Z Tryz.call12 (zH Z ze) Z) hS907 (fun hs=>wCY p0 pA0_0_0 pc0_0_0 pA0_2 pc0_2 W896 U893 hs h908 h909 h84) (.inr Z) ?_
     rintro U911 L912 v913 W914 le915 hS916 ⟨A917,c918,A919,c920,c921,rfl,rfl,h924⟩
     have hS925:sW w U U911 [.row A917 c918 3 1 (nA KL.encI x83.Rules.Classes),.row A919 c920 160 3 c921,B4,.row A901 c902 127 3 c903,.blk b2 27 B0] W914:=hS916
     refine yd ?_ ?_
     ·refine zq (cs:=B1) Z Z Z Z Z Zz Z hS925 ?_
      intro W926 b927 hS928
      have h942:=h906.le le915
      exact ko680 _ _ ⟨U911,b927,A899,c900,A901,c902,c903,A917,c918,A919,c920,c921,rfl,rfl,rfl,rfl,rfl,rfl,rfl,(le897.trans le915),(hS928.pick [5,0,3,4,1,2] _ (by decide) rfl),h942,h924⟩
     ·refine zq (cs:=B1) Z Z Z Z Z yA Z hS925 ?_
      intro W943 b944 hS945
      have h959:=h906.le le915
      exact ko635 _ _ ⟨U911,b944,A899,c900,A901,c902,c903,A917,c918,A919,c920,c921,rfl,rfl,rfl,rfl,rfl,rfl,rfl,(le897.trans le915),(hS945.pick [5,0,3,4,1,2] _ (by decide) rfl),h959,h924⟩
    refine yd ?_ ?_
    ·refine zq (cs:=B1) Z Z Z Z Z Zz Z hS907 ?_
     intro W960 b961 hS962
     exact ko831 _ _ ⟨U893,b961,A899,c900,A901,c902,c903,rfl,rfl,rfl,rfl,rfl,rfl,le897,(hS962.pick [3,0,1,2] _ (by decide) rfl),h906⟩
    ·refine zq (cs:=B1) Z Z Z Z Z yA Z hS907 ?_
     intro W971 b972 hS973
     exact ko765 _ _ ⟨U893,b972,A899,c900,A901,c902,c903,rfl,rfl,rfl,rfl,rfl,rfl,le897,(hS973.pick [3,0,1,2] _ (by decide) rfl),h906⟩
   refine yd ?_ ?_
   ·refine zq (cs:=B1) Z Z Z Z Z Zz Z hS117 ?_
    intro W982 b983 hS984
    refine yd ?_ ?_
    ·have h986:=ha0.le le12
     have h987:=ha1.le le12
     refine zQ 0 Z Z Z Z (zR Z Z Tryz.call11 (zH Z ze) Z) hS984 (fun hs=>wBq p0 pA0_0_0 pc0_0_0 pA0_2 pc0_2 W982 U8 hs h986 h987 h64) (.inr Z) ?_
     rintro U989 L990 v991 W992 le993 hS994 ⟨A995,c996,A997,c998,c999,rfl,rfl,h1002⟩
     have hS1003:sW w U U989 [.row A995 c996 3 1 (nA KL.encI x63.Rules.Classes),.row A997 c998 127 3 c999,.blk b983 27 B1,.blk b2 27 B0] W992:=hS994
     exact ko831 _ _ ⟨U989,b983,A995,c996,A997,c998,c999,rfl,rfl,rfl,rfl,rfl,rfl,le993,(hS1003.pick [3,2,0,1] _ (by decide) rfl),h1002⟩
    ·refine zq (cs:=B1) Z Z Z Z Z yA Z hS984 ?_
     intro W1011 b1012 hS1013
     exact ko717 _ _ ⟨U8,b983,b1012,rfl,rfl,rfl,rfl,rfl,rfl,(zZ _),(hS1013.pick [2,1,0] _ (by decide) rfl)⟩
   ·refine zq (cs:=B1) Z Z Z Z Z yA Z hS117 ?_
    intro W1019 b1020 hS1021
    refine yd ?_ ?_
    ·have h1023:=ha0.le le12
     have h1024:=ha1.le le12
     refine zQ 0 Z Z Z Z (zR Z Z Tryz.call11 (zH Z ze) Z) hS1021 (fun hs=>wBq p0 pA0_0_0 pc0_0_0 pA0_2 pc0_2 W1019 U8 hs h1023 h1024 h64) (.inr Z) ?_
     rintro U1026 L1027 v1028 W1029 le1030 hS1031 ⟨A1032,c1033,A1034,c1035,c1036,rfl,rfl,h1039⟩
     have hS1040:sW w U U1026 [.row A1032 c1033 3 1 (nA KL.encI x63.Rules.Classes),.row A1034 c1035 127 3 c1036,.blk b1020 34 B1,.blk b2 27 B0] W1029:=hS1031
     exact ko765 _ _ ⟨U1026,b1020,A1032,c1033,A1034,c1035,c1036,rfl,rfl,rfl,rfl,rfl,rfl,le1030,(hS1040.pick [3,2,0,1] _ (by decide) rfl),h1039⟩
    ·refine zq (cs:=B1) Z Z Z Z Z Zz Z hS1021 ?_
     intro W1048 b1049 hS1050
     exact ko717 _ _ ⟨U8,b1049,b1020,rfl,rfl,rfl,rfl,rfl,rfl,(zZ _),(hS1050.pick [2,0,1] _ (by decide) rfl)⟩
  ·rintro σ1056 W1057 ⟨U1058,b29,A31,c32,A40,c41,cs42,b44,A46,c47,A55,c56,cs57,f1061,f1062,f1063,f1064,le1059,hS1060,h1065,h1066⟩
   refine zB (zB (Zv Zt [1,2,1,2,3] (.fl 0 (.fl 2 (.fx 1 (.fx 3 (.fl 4 (.nil)) .stop) .stop))) (by kernel_rfl) ?_))
   have hS1067:=hS1060.drew
   generalize hw_W1068:({ W1057 with drawn:=W1057.drawn + 1 }:World)=W1068 at hS1067 ⊢
   let B5:List Value:=[.slice A31 l30.length c32,jV x33,jV x34,jV x35,jV x36,jV x37,jV x38,.slice A40 l39.length c41]
   refine oL Z (hS1067.ldBA (j:=1) Z Z f1063 Zd ZH (vs:=B5) Z Z) ?_
   let B6:List Value:=[.slice A46 l45.length c47,jV x48,jV x49,jV x50,jV x51,jV x52,jV x53,.slice A55 l54.length c56]
   refine oL Z (hS1067.ldBA (j:=4) Z Z f1064 Zy Zl (vs:=B6) Z Z) ?_
   have q:=hS1067.freezeR (k:=2) (n:=l30.length) rfl (wAN (f:=KL.encI) (sz:=1) (fun _=>rfl) l30) (by decide)
   obtain ⟨U1069,le1070,hs1071,hS1072⟩:=q
   let B7:Res:=.row A46 c47 3 1 (nA KL.encI l45)
   let B8:Res:=.row A55 c56 160 3 cs57
   have hS1073:sW w U U1069 [.blk b2 27 B0,.blk b29 27 B5,.row A40 c41 127 3 cs42,.blk b44 34 B6,B7,B8] W1068:=hS1072
   have h1078:=h1065.le le1070
   have q:=hS1073.freezeRR (R:=wCS) (k:=2) rfl h1078 rfl (by decide)
   obtain ⟨U1074,le1075,hs1076,hS1077⟩:=q
   have hS1079:sW w U U1074 [.blk b2 27 B0,.blk b29 27 B5,.blk b44 34 B6,B7,B8] W1068:=hS1077
   have h1080:=hs1071.le le1075
   refine bnK hm60 fun x1081 h1082 hm1083=>zQ 0 Z Z Z Z (zR Z Z Tryz.call13 (zH Z ze) Z) hS1079 (fun hs=>wFw (⟨(⟨l30,x33,x34,x35,x36,x37⟩:wAB),x38,l39⟩:wAA) A31 c32 A40 c41 W1068 U1074 hs h1080 hs1076 h1082) (.inr Z) ?_
   rintro U1084 L1085 v1086 W1087 le1088 hS1089 ⟨rfl,rfl⟩
   have hS1090:sW w U U1084 [.blk b2 27 B0,.blk b29 27 B5,.blk b44 34 B6,B7,B8] W1087:=hS1089
   have q:=hS1090.freezeR (k:=3) (n:=l45.length) rfl (wAN (f:=KL.encI) (sz:=1) (fun _=>rfl) l45) (by decide)
   obtain ⟨U1091,le1092,hs1093,hS1094⟩:=q
   have hS1095:sW w U U1091 [.blk b2 27 B0,.blk b29 27 B5,.blk b44 34 B6,B8] W1087:=hS1094
   have h1100:=h1066.le le1070
   have h1101:=h1100.le le1075
   have h1102:=h1101.le le1088
   have h1103:=h1102.le le1092
   have q:=hS1095.freezeRR (R:=wET) (k:=3) rfl h1103 rfl (by decide)
   obtain ⟨U1096,le1097,hs1098,hS1099⟩:=q
   have hS1104:sW w U U1096 [.blk b2 27 B0,.blk b29 27 B5,.blk b44 34 B6] W1087:=hS1099
   have h1105:=hs1093.le le1097
   refine bnK hm1083 fun x1106 h1107 hm1108=>zQ 0 Z Z Z Z (zR Z Z Tryz.call14 (zH Z ze) Z) hS1104 (fun hs=>wCn (⟨(⟨l45,x48,x49,x50,x51,x52⟩:wAM),x53,l54⟩:wAD) A46 c47 A55 c56 W1087 U1096 hs h1105 hs1098 h1107) (.inr Z) ?_
   rintro U1109 L1110 v1111 W1112 le1113 hS1114 ⟨rfl,rfl⟩
   have hS1115:sW w U U1109 [.blk b2 27 B0,.blk b29 27 B5,.blk b44 34 B6] W1112:=hS1114
   refine oR Z (ZV Z Z Z) (eN (ifc hm1108 ?_ ?_))
   ·intro c1116 hm1117
    refine zo (zw (fun h=>h c1116.out)) (kN (sR (.fl 0 (.fx 1 (wGo (.nil)) .stop)) Z (oL Z (hS1115.ldBA (j:=1) Z Z f1063 Zd ZH (vs:=B5) Z Z) ?_)))
    have h1118:=h1080.le le1088
    have h1119:=h1118.le le1092
    have h1120:=h1119.le le1097
    have h1121:=h1120.le le1113
    have h1122:=hs1076.le le1088
    have h1123:=h1122.le le1092
    have h1124:=h1123.le le1097
    have h1125:=h1124.le le1113
    have q:=bnd hm1117
    obtain ⟨⟨x1126,x1127⟩,h1128,hm1129⟩:=q
    try dsimp only at hm1129
    refine zQ 0 Z Z Z Z (zR Z Z Tryz.call15 (zH Z ze) Z) hS1115 (fun hs=>wFx (⟨(⟨l30,x33,x34,x35,x36,x37⟩:wAB),x38,l39⟩:wAA) A31 c32 A40 c41 W1112 U1109 hs h1121 h1125 h1128) (.inr Z) ?_
    rintro U1130 L1131 v1132 W1133 le1134 hS1135 ⟨A1136,c1137,c1138,rfl,rfl,h1140⟩
    have hS1141:sW w U U1130 [.row A1136 c1137 22 1 c1138,.blk b2 27 B0,.blk b29 27 B5,.blk b44 34 B6] W1133:=hS1135
    refine oM Z Z (oR Z (ZK Z Z (v:=.slice A1136 x1126.length c1137) Z) (oR Z (ZK Z Z (v:=jV x1127) Z) (oA Z Z (oA Z Z (eN (sR (.fl 0 (.fx 1 (wGo (.nil)) .stop)) Z (oL Z (hS1141.ldBA (j:=3) Z Z f1064 Zy Zl (vs:=B6) Z Z) ?_)))))))
    have h1142:=h1105.le le1113
    have h1143:=h1142.le le1134
    have h1144:=hs1098.le le1113
    have h1145:=h1144.le le1134
    have q:=bnd hm1129
    obtain ⟨⟨x1146,x1147⟩,h1148,hm1149⟩:=q
    try dsimp only at hm1149
    refine zQ 0 Z Z Z Z (zR Z Z Tryz.call16 (zH Z ze) Z) hS1141 (fun hs=>wCo (⟨(⟨l45,x48,x49,x50,x51,x52⟩:wAM),x53,l54⟩:wAD) A46 c47 A55 c56 W1133 U1130 hs h1143 h1145 h1148) (.inr Z) ?_
    rintro U1150 L1151 v1152 W1153 le1154 hS1155 ⟨A1156,c1157,c1158,rfl,rfl,h1160⟩
    have hS1161:sW w U U1150 [.row A1156 c1157 22 1 c1158,.row A1136 c1137 22 1 c1138,.blk b2 27 B0,.blk b29 27 B5,.blk b44 34 B6] W1153:=hS1155
    refine oM Z Z (oR Z (ZK Z Z (v:=.slice A1156 x1146.length c1157) Z) (oR Z (ZK Z Z (v:=jV x1147) Z) (oA Z Z (oA Z Z (eN (zB (sR (wGH (.fx 6 (.fl 7 (.fl 8 (.nil))) .stop)) Z (oM Z Z (oM Z Z (oR Z (ZV Z Z Z) (oM Z Z (ifc hm1149 ?_ ?_))))))))))))
    ·intro c1162 hm1163
     refine ZM Z Z Z (zJ Z Z (zw (fun h=>h c1162.out))) Z Z (ZM Z Z Z (zJ Z Z (zw (fun h=>h c1162.out))) Z Z ?_)
     have h1168:=h1140.le le1154
     have q:=hS1161.freezeRR (R:=wDL) (k:=1) rfl h1168 rfl (by decide)
     obtain ⟨U1164,le1165,hs1166,hS1167⟩:=q
     have hS1169:sW w U U1164 [.row A1156 c1157 22 1 c1158,.blk b2 27 B0,.blk b29 27 B5,.blk b44 34 B6] W1153:=hS1167
     have h1174:=h1160.le le1165
     have q:=hS1169.freezeRR (R:=wDL) (k:=0) rfl h1174 rfl (by decide)
     obtain ⟨U1170,le1171,hs1172,hS1173⟩:=q
     have hS1175:sW w U U1170 [.blk b2 27 B0,.blk b29 27 B5,.blk b44 34 B6] W1153:=hS1173
     have h1176:=hs1166.le le1171
     refine bnK hm1163 fun x1177 h1178 hm1179=>zQ 0 Z Z Z (zJ Z Z (zw (fun h=>h c1162.out))) (zR Z Z Tryz.call17 (zH Z (zH Z ze)) Z) hS1175 (fun hs=>wCG x1126 A1136 c1137 x1146 A1156 c1157 W1153 U1170 hs h1176 hs1172 h1178) (.inr Z) ?_
     rintro U1180 L1181 v1182 W1183 le1184 hS1185 ⟨rfl,rfl⟩
     have hS1186:sW w U U1180 [.blk b2 27 B0,.blk b29 27 B5,.blk b44 34 B6] W1183:=hS1185
     refine zu Z Z Z (zJ Z Z (zw (fun h=>h c1162.out))) (fun _=>Za Z Z) (oR Z (zh Z (zw (fun h=>h c1162.out)) Z) (eN (ifc hm1179 ?_ ?_)))
     ·intro c1187 hm1188
      refine zo (nC c1187.out) (kN (sR (.fl 0 (.fx 1 (wQV (.fx 5 (.fx 6 (.fl 7 (.nil)) .stop) .stop)) .stop)) Z (oL Z (hS1186.ldBA (j:=1) Z Z f1063 Zd ZH (vs:=B5) Z Z) ?_)))
      have h1189:=h1121.le le1134
      have h1190:=h1189.le le1154
      have h1191:=h1190.le le1165
      have h1192:=h1191.le le1171
      have h1193:=h1192.le le1184
      have h1194:=h1125.le le1134
      have h1195:=h1194.le le1154
      have h1196:=h1195.le le1165
      have h1197:=h1196.le le1171
      have h1198:=h1197.le le1184
      have q:=bnd hm1188
      obtain ⟨⟨x1199,x1200⟩,h1201,hm1202⟩:=q
      try dsimp only at hm1202
      refine zQ 0 Z Z Z Z (zR Z Z Tryz.call18 (zH Z ze) Z) hS1186 (fun hs=>wKK (⟨(⟨l30,x33,x34,x35,x36,x37⟩:wAB),x38,l39⟩:wAA) A31 c32 A40 c41 W1183 U1180 hs h1193 h1198 h1201) (.inr Z) ?_
      rintro U1203 L1204 v1205 W1206 le1207 hS1208 ⟨A1209,c1210,A1211,c1212,c1213,rfl,rfl,h1216⟩
      let B9:Res:=.row A1209 c1210 3 1 (nA KL.encI x1199.Bibs)
      let B10:Res:=.row A1211 c1212 22 1 c1213
      have hS1217:sW w U U1203 [B9,B10,.blk b2 27 B0,.blk b29 27 B5,.blk b44 34 B6] W1206:=hS1208
      refine oM Z Z (oR Z (ZK Z Z (v:=.agg #[jV x1199.Laps,.slice A1209 x1199.Bibs.length c1210,.slice A1211 x1199.Times.length c1212]) Z) (oR Z (ZK Z Z (v:=jV x1200) Z) ?_))
      let B11:List Value:=[jV 0,.slice none 0 0,.slice none 0 0]
      refine zq (cs:=B11) Z Z Z Z Z yZ Z hS1217 ?_
      intro W1218 b1219 hS1220
      let B12:List Value:=[jV x1199.Laps,.slice A1209 x1199.Bibs.length c1210,.slice A1211 x1199.Times.length c1212]
      refine ZE (j:=0) (vs:=B12) Z Z Z Z hS1220 Z Z Z Z yJ (zD Z) Z Z Z ?_
      intro W1222 hS1223
      have hS1224:sW w U U1203 [.blk b1219 45 B12,B9,B10,.blk b2 27 B0,.blk b29 27 B5,.blk b44 34 B6] W1222:=hS1223
      refine oA Z Z (eN (sR (.fl 0 (.fx 1 (wQV (.fx 5 (.fx 6 (.fl 7 (.nil)) .stop) .stop)) .stop)) Z (oL Z (hS1224.ldBA (j:=5) Z Z f1064 Zy Zl (vs:=B6) Z Z) ?_)))
      have h1225:=h1143.le le1154
      have h1226:=h1225.le le1165
      have h1227:=h1226.le le1171
      have h1228:=h1227.le le1184
      have h1229:=h1228.le le1207
      have h1230:=h1145.le le1154
      have h1231:=h1230.le le1165
      have h1232:=h1231.le le1171
      have h1233:=h1232.le le1184
      have h1234:=h1233.le le1207
      have q:=bnd hm1202
      obtain ⟨⟨x1235,x1236⟩,h1237,hm1238⟩:=q
      try dsimp only at hm1238
      refine zQ 0 Z Z Z Z (zR Z Z Tryz.call19 (zH Z ze) Z) hS1224 (fun hs=>wFX (⟨(⟨l45,x48,x49,x50,x51,x52⟩:wAM),x53,l54⟩:wAD) A46 c47 A55 c56 W1222 U1203 hs h1229 h1234 h1237) (.inr Z) ?_
      rintro U1239 L1240 v1241 W1242 le1243 hS1244 ⟨A1245,c1246,A1247,c1248,c1249,rfl,rfl,h1252⟩
      let B13:Res:=.row A1247 c1248 22 1 c1249
      let B14:Res:=.row A1245 c1246 3 1 (nA KL.encI x1235.Bibs)
      have hS1253:sW w U U1239 [B14,B13,.blk b1219 45 B12,B9,B10,.blk b2 27 B0,.blk b29 27 B5,.blk b44 34 B6] W1242:=hS1244
      refine oM Z Z (oR Z (ZK Z Z (v:=.agg #[jV x1235.Laps,.slice A1245 x1235.Bibs.length c1246,.slice A1247 x1235.Times.length c1248]) Z) (oR Z (ZK Z Z (v:=jV x1236) Z) (zq (cs:=B11) Z Z Z Z Z Tryz.zeroValue48 Z hS1253 ?_)))
      intro W1254 b1255 hS1256
      let B15:List Value:=[jV x1235.Laps,.slice A1245 x1235.Bibs.length c1246,.slice A1247 x1235.Times.length c1248]
      refine ZE (j:=0) (vs:=B15) Z Z Z Z hS1256 Z Z Z Z ye (zD Z) Z Z Z ?_
      intro W1258 hS1259
      have hS1260:sW w U U1239 [.blk b1255 48 B15,B14,B13,.blk b1219 45 B12,B9,B10,.blk b2 27 B0,.blk b29 27 B5,.blk b44 34 B6] W1258:=hS1259
      refine oA Z Z (eN (zB (zB (CK.fresh fun σ1261 hσ1262=>?_))))
      have f1263:σ1261 1=jV p1:=(hσ1262 1).trans f1061
      have f1264:σ1261 2=.pointer (some ⟨b2,0,none⟩):=(hσ1262 2).trans f1062
      have f1265:σ1261 5=.pointer (some ⟨b29,0,none⟩):=(hσ1262 5).trans f1063
      have f1266:σ1261 6=.pointer (some ⟨b44,0,none⟩):=(hσ1262 6).trans f1064
      have f1267:σ1261 8=jV x1200:=(hσ1262 8).trans rfl
      have f1268:σ1261 10=jV x1236:=(hσ1262 10).trans rfl
      have f1269:σ1261 11=.pointer (some ⟨b1219,0,none⟩):=(hσ1262 11).trans rfl
      have f1270:σ1261 12=.pointer (some ⟨b1255,0,none⟩):=(hσ1262 12).trans rfl
      clear hσ1262
      refine rR (wQw (.fx 15 (wSV (.fx 23 (.fl 24 (.fl 25 (.nil))) .stop)) .stop)) Z (oM Z f1267 (oM Z f1268 (oR Z (ZV Z Z Z) (oM Z Z (ifc hm1238 ?_ ?_)))))
      ·intro c1271 hm1272
       refine zu Z Z Z (zJ Z Z (zw (fun h=>h c1271.out))) (fun _=>zA Z f1269 yM Z zI) (ZN Z Z Z (zJ Z Z (zw (fun h=>h c1271.out))) (hS1260.ldB (j:=3) Z Z Z zP (v:=jV x1199.Laps) Z) Z (zu Z Z Z (zJ Z Z (zw (fun h=>h c1271.out))) (fun _=>zA Z f1270 yN Z zI) (ZN Z Z Z (zJ Z Z (zw (fun h=>h c1271.out))) (hS1260.ldB (j:=0) Z Z Z zP (v:=jV x1235.Laps) Z) Z (zu Z Z Z (zJ Z Z (zw (fun h=>h c1271.out))) (fun _=>ZV Z Z Z) (oR Z (zh Z (zw (fun h=>h c1271.out)) Z) (oM Z Z (ifc hm1272 ?_ ?_)))))))
       ·intro c1273 hm1274
        refine zu Z Z Z (zJ Z Z (zw (fun h=>h c1273.out))) (fun _=>zA Z f1269 yM Z zO) (ZN Z Z Z (zJ Z Z (zw (fun h=>h c1273.out))) (hS1260.ldB (j:=3) Z Z Z zd (v:=.slice A1209 x1199.Bibs.length c1210) Z) Z (zu Z Z Z (zJ Z Z (zw (fun h=>h c1273.out))) (fun _=>zA Z f1270 yN Z zO) (ZN Z Z Z (zJ Z Z (zw (fun h=>h c1273.out))) (hS1260.ldB (j:=0) Z Z Z zd (v:=.slice A1245 x1235.Bibs.length c1246) Z) Z ?_)))
        have q:=hS1260.freezeR (k:=4) (n:=x1199.Bibs.length) rfl (wAN (f:=KL.encI) (sz:=1) (fun _=>rfl) x1199.Bibs) (by decide)
        obtain ⟨U1275,le1276,hs1277,hS1278⟩:=q
        have hS1279:sW w U U1275 [.blk b1255 48 B15,B14,B13,.blk b1219 45 B12,B10,.blk b2 27 B0,.blk b29 27 B5,.blk b44 34 B6] W1258:=hS1278
        have q:=hS1279.freezeR (k:=1) (n:=x1235.Bibs.length) rfl (wAN (f:=KL.encI) (sz:=1) (fun _=>rfl) x1235.Bibs) (by decide)
        obtain ⟨U1280,le1281,hs1282,hS1283⟩:=q
        have hS1284:sW w U U1280 [.blk b1255 48 B15,B13,.blk b1219 45 B12,B10,.blk b2 27 B0,.blk b29 27 B5,.blk b44 34 B6] W1258:=hS1283
        have h1285:=hs1277.le le1281
        refine bnK hm1274 fun x1286 h1287 hm1288=>zQ 0 Z Z Z (zJ Z Z (zw (fun h=>h c1273.out))) (zR Z Z Tryz.call20 (zH Z (zH Z ze)) Z) hS1284 (fun hs=>wAt x1199.Bibs A1209 c1210 x1235.Bibs A1245 c1246 W1258 U1280 hs h1285 hs1282 h1287) (.inr Z) ?_
        rintro U1289 L1290 v1291 W1292 le1293 hS1294 ⟨rfl,rfl⟩
        have hS1295:sW w U U1289 [.blk b1255 48 B15,B13,.blk b1219 45 B12,B10,.blk b2 27 B0,.blk b29 27 B5,.blk b44 34 B6] W1292:=hS1294
        refine zu Z Z Z (zJ Z Z (zw (fun h=>h c1273.out))) (fun _=>Za Z Z) (oR Z (zh Z (zw (fun h=>h c1273.out)) Z) (oM Z Z (ifc hm1288 ?_ ?_)))
        ·intro c1296 hm1297
         refine zu Z Z Z (zJ Z Z (nC c1296.out)) (fun _=>zA Z f1269 yM Z yE) (ZN Z Z Z (zJ Z Z (nC c1296.out)) (hS1295.ldB (j:=2) Z Z Z Tryz.isAgg39 (v:=.slice A1211 x1199.Times.length c1212) Z) Z (zu Z Z Z (zJ Z Z (nC c1296.out)) (fun _=>zA Z f1270 yN Z yE) (ZN Z Z Z (zJ Z Z (nC c1296.out)) (hS1295.ldB (j:=0) Z Z Z Tryz.isAgg39 (v:=.slice A1247 x1235.Times.length c1248) Z) Z ?_)))
         have h1302:=h1216.le le1243
         have h1303:=h1302.le le1276
         have h1304:=h1303.le le1281
         have h1305:=h1304.le le1293
         have q:=hS1295.freezeRR (R:=wDL) (k:=3) rfl h1305 rfl (by decide)
         obtain ⟨U1298,le1299,hs1300,hS1301⟩:=q
         have hS1306:sW w U U1298 [.blk b1255 48 B15,B13,.blk b1219 45 B12,.blk b2 27 B0,.blk b29 27 B5,.blk b44 34 B6] W1292:=hS1301
         have h1311:=h1252.le le1276
         have h1312:=h1311.le le1281
         have h1313:=h1312.le le1293
         have h1314:=h1313.le le1299
         have q:=hS1306.freezeRR (R:=wDL) (k:=1) rfl h1314 rfl (by decide)
         obtain ⟨U1307,le1308,hs1309,hS1310⟩:=q
         have hS1315:sW w U U1307 [.blk b1255 48 B15,.blk b1219 45 B12,.blk b2 27 B0,.blk b29 27 B5,.blk b44 34 B6] W1292:=hS1310
         have h1316:=hs1300.le le1308
         refine bnK hm1297 fun x1317 h1318 hm1319=>zQ 0 Z Z Z (zJ Z Z (nC c1296.out)) (zR Z Z Tryz.call17 (zH Z (zH Z ze)) Z) hS1315 (fun hs=>wCG x1199.Times A1211 c1212 x1235.Times A1247 c1248 W1292 U1307 hs h1316 hs1309 h1318) (.inr Z) ?_
         rintro U1320 L1321 v1322 W1323 le1324 hS1325 ⟨rfl,rfl⟩
         have hS1326:sW w U U1320 [.blk b1255 48 B15,.blk b1219 45 B12,.blk b2 27 B0,.blk b29 27 B5,.blk b44 34 B6] W1323:=hS1325
         refine zu Z Z Z (zJ Z Z (nC c1296.out)) (fun _=>Za Z Z) (oR Z (zh Z (nC c1296.out) Z) (eN (ifc hm1319 ?_ ?_)))
         ·intro c1327 hm1328
          refine zo (nC c1327.out) (kN (sR (.fl 0 (.fx 1 (wGo (.nil)) .stop)) Z (oL Z (hS1326.ldBA (j:=3) Z Z f1265 Zd ZH (vs:=B5) Z Z) ?_)))
          have h1329:=h1193.le le1207
          have h1330:=h1329.le le1243
          have h1331:=h1330.le le1276
          have h1332:=h1331.le le1281
          have h1333:=h1332.le le1293
          have h1334:=h1333.le le1299
          have h1335:=h1334.le le1308
          have h1336:=h1335.le le1324
          have h1337:=h1198.le le1207
          have h1338:=h1337.le le1243
          have h1339:=h1338.le le1276
          have h1340:=h1339.le le1281
          have h1341:=h1340.le le1293
          have h1342:=h1341.le le1299
          have h1343:=h1342.le le1308
          have h1344:=h1343.le le1324
          have q:=bnd hm1328
          obtain ⟨⟨x1345,x1346⟩,h1347,hm1348⟩:=q
          try dsimp only at hm1348
          refine zQ 0 Z Z Z Z (zR Z Z Tryz.call21 (zH Z ze) Z) hS1326 (fun hs=>wGe (⟨(⟨l30,x33,x34,x35,x36,x37⟩:wAB),x38,l39⟩:wAA) A31 c32 A40 c41 W1323 U1320 hs h1336 h1344 h1347) (.inr Z) ?_
          rintro U1349 L1350 v1351 W1352 le1353 hS1354 ⟨A1355,c1356,c1357,rfl,rfl,h1359⟩
          have hS1360:sW w U U1349 [.row A1355 c1356 22 1 c1357,.blk b1255 48 B15,.blk b1219 45 B12,.blk b2 27 B0,.blk b29 27 B5,.blk b44 34 B6] W1352:=hS1354
          refine oM Z Z (oR Z (ZK Z Z (v:=.slice A1355 x1345.length c1356) Z) (oR Z (ZK Z Z (v:=jV x1346) Z) (oA Z Z (oA Z Z (eN (sR (.fl 0 (.fx 1 (wGo (.nil)) .stop)) Z (oL Z (hS1360.ldBA (j:=5) Z Z f1266 Zy Zl (vs:=B6) Z Z) ?_)))))))
          have h1361:=h1229.le le1243
          have h1362:=h1361.le le1276
          have h1363:=h1362.le le1281
          have h1364:=h1363.le le1293
          have h1365:=h1364.le le1299
          have h1366:=h1365.le le1308
          have h1367:=h1366.le le1324
          have h1368:=h1367.le le1353
          have h1369:=h1234.le le1243
          have h1370:=h1369.le le1276
          have h1371:=h1370.le le1281
          have h1372:=h1371.le le1293
          have h1373:=h1372.le le1299
          have h1374:=h1373.le le1308
          have h1375:=h1374.le le1324
          have h1376:=h1375.le le1353
          have q:=bnd hm1348
          obtain ⟨⟨x1377,x1378⟩,h1379,hm1380⟩:=q
          try dsimp only at hm1380
          refine zQ 0 Z Z Z Z (zR Z Z Tryz.call22 (zH Z ze) Z) hS1360 (fun hs=>wDc (⟨(⟨l45,x48,x49,x50,x51,x52⟩:wAM),x53,l54⟩:wAD) A46 c47 A55 c56 W1352 U1349 hs h1368 h1376 h1379) (.inr Z) ?_
          rintro U1381 L1382 v1383 W1384 le1385 hS1386 ⟨A1387,c1388,c1389,rfl,rfl,h1391⟩
          have hS1392:sW w U U1381 [.row A1387 c1388 22 1 c1389,.row A1355 c1356 22 1 c1357,.blk b1255 48 B15,.blk b1219 45 B12,.blk b2 27 B0,.blk b29 27 B5,.blk b44 34 B6] W1384:=hS1386
          refine oM Z Z (oR Z (ZK Z Z (v:=.slice A1387 x1377.length c1388) Z) (oR Z (ZK Z Z (v:=jV x1378) Z) (oA Z Z (oA Z Z (eN (zB (zB (CK.fresh fun σ1393 hσ1394=>?_))))))))
          have f1395:σ1393 1=jV p1:=(hσ1394 1).trans f1263
          have f1396:σ1393 2=.pointer (some ⟨b2,0,none⟩):=(hσ1394 2).trans f1264
          have f1397:σ1393 5=.pointer (some ⟨b29,0,none⟩):=(hσ1394 5).trans f1265
          have f1398:σ1393 6=.pointer (some ⟨b44,0,none⟩):=(hσ1394 6).trans f1266
          have f1399:σ1393 7=.slice A1355 x1345.length c1356:=(hσ1394 7).trans rfl
          have f1400:σ1393 8=jV x1346:=(hσ1394 8).trans rfl
          have f1401:σ1393 9=.slice A1387 x1377.length c1388:=(hσ1394 9).trans rfl
          have f1402:σ1393 10=jV x1378:=(hσ1394 10).trans rfl
          clear hσ1394
          refine rR (wGH (.fx 6 (.fl 7 (.fl 8 (.nil))) .stop)) Z (oM Z f1400 (oM Z f1402 (oR Z (ZV Z Z Z) (oM Z Z (ifc hm1380 ?_ ?_)))))
          ·intro c1403 hm1404
           refine ZM Z Z Z (zJ Z Z (zw (fun h=>h c1403.out))) Z f1399 (ZM Z Z Z (zJ Z Z (zw (fun h=>h c1403.out))) Z f1401 ?_)
           have h1409:=h1359.le le1385
           have q:=hS1392.freezeRR (R:=wDL) (k:=1) rfl h1409 rfl (by decide)
           obtain ⟨U1405,le1406,hs1407,hS1408⟩:=q
           have hS1410:sW w U U1405 [.row A1387 c1388 22 1 c1389,.blk b1255 48 B15,.blk b1219 45 B12,.blk b2 27 B0,.blk b29 27 B5,.blk b44 34 B6] W1384:=hS1408
           have h1415:=h1391.le le1406
           have q:=hS1410.freezeRR (R:=wDL) (k:=0) rfl h1415 rfl (by decide)
           obtain ⟨U1411,le1412,hs1413,hS1414⟩:=q
           have hS1416:sW w U U1411 [.blk b1255 48 B15,.blk b1219 45 B12,.blk b2 27 B0,.blk b29 27 B5,.blk b44 34 B6] W1384:=hS1414
           have h1417:=hs1407.le le1412
           refine bnK hm1404 fun x1418 h1419 hm1420=>zQ 0 Z Z Z (zJ Z Z (zw (fun h=>h c1403.out))) (zR Z Z Tryz.call17 (zH Z (zH Z ze)) Z) hS1416 (fun hs=>wCG x1345 A1355 c1356 x1377 A1387 c1388 W1384 U1411 hs h1417 hs1413 h1419) (.inr Z) ?_
           rintro U1421 L1422 v1423 W1424 le1425 hS1426 ⟨rfl,rfl⟩
           have hS1427:sW w U U1421 [.blk b1255 48 B15,.blk b1219 45 B12,.blk b2 27 B0,.blk b29 27 B5,.blk b44 34 B6] W1424:=hS1426
           refine zu Z Z Z (zJ Z Z (zw (fun h=>h c1403.out))) (fun _=>Za Z Z) (oR Z (zh Z (zw (fun h=>h c1403.out)) Z) (eN (ifc hm1420 ?_ ?_)))
           ·intro c1428 hm1429
            refine zo (nC c1428.out) (kN (sR (.fl 0 (.fl 1 (.fx 2 (wTk (.nil)) .stop))) Z (oL Z (hS1427.ldBA (j:=3) Z Z f1397 Zd ZH (vs:=B5) Z Z) (oM Z f1395 ?_))))
            have h1430:=h1336.le le1353
            have h1431:=h1430.le le1385
            have h1432:=h1431.le le1406
            have h1433:=h1432.le le1412
            have h1434:=h1433.le le1425
            have h1435:=h1344.le le1353
            have h1436:=h1435.le le1385
            have h1437:=h1436.le le1406
            have h1438:=h1437.le le1412
            have h1439:=h1438.le le1425
            have q:=bnd hm1429
            obtain ⟨⟨x1440,x1441⟩,h1442,hm1443⟩:=q
            try dsimp only at hm1443
            refine zQ 0 Z Z Z Z (zR Z Z Tryz.call23 (zH Z (zH Z ze)) Z) hS1427 (fun hs=>wIX (⟨(⟨l30,x33,x34,x35,x36,x37⟩:wAB),x38,l39⟩:wAA) A31 c32 A40 c41 p1 W1424 U1421 hs h1434 h1439 h1442) (.inr Z) ?_
            rintro U1444 L1445 v1446 W1447 le1448 hS1449 ⟨A1450,c1451,rfl,rfl⟩
            let B16:Res:=.row A1450 c1451 3 1 (nA KL.encI x1440)
            have hS1453:sW w U U1444 [B16,.blk b1255 48 B15,.blk b1219 45 B12,.blk b2 27 B0,.blk b29 27 B5,.blk b44 34 B6] W1447:=hS1449
            refine oM Z Z (oR Z (ZK Z Z (v:=.slice A1450 x1440.length c1451) Z) (oR Z (ZK Z Z (v:=jV x1441) Z) (oA Z Z (oA Z Z (eN (sR (.fl 0 (.fl 1 (.fx 2 (wTk (.nil)) .stop))) Z (oL Z (hS1453.ldBA (j:=5) Z Z f1398 Zy Zl (vs:=B6) Z Z) (oM Z f1395 ?_))))))))
            have h1454:=h1368.le le1385
            have h1455:=h1454.le le1406
            have h1456:=h1455.le le1412
            have h1457:=h1456.le le1425
            have h1458:=h1457.le le1448
            have h1459:=h1376.le le1385
            have h1460:=h1459.le le1406
            have h1461:=h1460.le le1412
            have h1462:=h1461.le le1425
            have h1463:=h1462.le le1448
            have q:=bnd hm1443
            obtain ⟨⟨x1464,x1465⟩,h1466,hm1467⟩:=q
            try dsimp only at hm1467
            refine zQ 0 Z Z Z Z (zR Z Z Tryz.call24 (zH Z (zH Z ze)) Z) hS1453 (fun hs=>wEo (⟨(⟨l45,x48,x49,x50,x51,x52⟩:wAM),x53,l54⟩:wAD) A46 c47 A55 c56 p1 W1447 U1444 hs h1458 h1463 h1466) (.inr Z) ?_
            rintro U1468 L1469 v1470 W1471 le1472 hS1473 ⟨A1474,c1475,rfl,rfl⟩
            let B17:Res:=.row A1474 c1475 3 1 (nA KL.encI x1464)
            have hS1477:sW w U U1468 [B17,B16,.blk b1255 48 B15,.blk b1219 45 B12,.blk b2 27 B0,.blk b29 27 B5,.blk b44 34 B6] W1471:=hS1473
            refine oM Z Z (oR Z (ZK Z Z (v:=.slice A1474 x1464.length c1475) Z) (oR Z (ZK Z Z (v:=jV x1465) Z) (oA Z Z (oA Z Z (eN (zB (sR (wGH (.fx 6 (.fl 7 (.fl 8 (.nil))) .stop)) Z (oM Z Z (oM Z Z (oR Z (ZV Z Z Z) (oM Z Z (ifc hm1467 ?_ ?_))))))))))))
            ·intro c1478 hm1479
             refine ZM Z Z Z (zJ Z Z (zw (fun h=>h c1478.out))) Z Z (ZM Z Z Z (zJ Z Z (zw (fun h=>h c1478.out))) Z Z ?_)
             have q:=hS1477.freezeR (k:=1) (n:=x1440.length) rfl (wAN (f:=KL.encI) (sz:=1) (fun _=>rfl) x1440) (by decide)
             obtain ⟨U1480,le1481,hs1482,hS1483⟩:=q
             have hS1484:sW w U U1480 [B17,.blk b1255 48 B15,.blk b1219 45 B12,.blk b2 27 B0,.blk b29 27 B5,.blk b44 34 B6] W1471:=hS1483
             have q:=hS1484.freezeR (k:=0) (n:=x1464.length) rfl (wAN (f:=KL.encI) (sz:=1) (fun _=>rfl) x1464) (by decide)
             obtain ⟨U1485,le1486,hs1487,hS1488⟩:=q
             have hS1489:sW w U U1485 [.blk b1255 48 B15,.blk b1219 45 B12,.blk b2 27 B0,.blk b29 27 B5,.blk b44 34 B6] W1471:=hS1488
             have h1490:=hs1482.le le1486
             refine bnK hm1479 fun x1491 h1492 hm1493=>zQ 0 Z Z Z (zJ Z Z (zw (fun h=>h c1478.out))) (zR Z Z Tryz.call20 (zH Z (zH Z ze)) Z) hS1489 (fun hs=>wAt x1440 A1450 c1451 x1464 A1474 c1475 W1471 U1485 hs h1490 hs1487 h1492) (.inr Z) ?_
             rintro U1494 L1495 v1496 W1497 le1498 hS1499 ⟨rfl,rfl⟩
             have hS1500:sW w U U1494 [.blk b1255 48 B15,.blk b1219 45 B12,.blk b2 27 B0,.blk b29 27 B5,.blk b44 34 B6] W1497:=hS1499
             refine zu Z Z Z (zJ Z Z (zw (fun h=>h c1478.out))) (fun _=>Za Z Z) (oR Z (zh Z (zw (fun h=>h c1478.out)) Z) (eN (ifc hm1493 ?_ ?_)))
             ·intro c1501 hm1502
              refine zo (nC c1501.out) (kN (sR (.fl 0 (.fl 1 (.fx 2 (wTl (.nil)) .stop))) Z (oL Z (hS1500.ldBA (j:=3) Z Z f1397 Zd ZH (vs:=B5) Z Z) (oM Z f1395 ?_))))
              have h1503:=h1434.le le1448
              have h1504:=h1503.le le1472
              have h1505:=h1504.le le1481
              have h1506:=h1505.le le1486
              have h1507:=h1506.le le1498
              have h1508:=h1439.le le1448
              have h1509:=h1508.le le1472
              have h1510:=h1509.le le1481
              have h1511:=h1510.le le1486
              have h1512:=h1511.le le1498
              have q:=bnd hm1502
              obtain ⟨⟨x1513,x1514,x1515⟩,h1516,hm1517⟩:=q
              try dsimp only at hm1517
              refine zQ 0 Z Z Z Z (zR Z Z Tryz.call25 (zH Z (zH Z ze)) Z) hS1500 (fun hs=>wHx (⟨(⟨l30,x33,x34,x35,x36,x37⟩:wAB),x38,l39⟩:wAA) A31 c32 A40 c41 p1 W1497 U1494 hs h1507 h1512 h1516) (.inr Z) ?_
              rintro U1518 L1519 v1520 W1521 le1522 hS1523 ⟨A1524,c1525,rfl,rfl⟩
              let B18:Res:=.row A1524 c1525 3 1 (nA KL.encI x1513)
              have hS1527:sW w U U1518 [B18,.blk b1255 48 B15,.blk b1219 45 B12,.blk b2 27 B0,.blk b29 27 B5,.blk b44 34 B6] W1521:=hS1523
              refine oM Z Z (oR Z (ZK Z Z (v:=.slice A1524 x1513.length c1525) Z) (oR Z (ZK Z Z (v:=jV x1514) Z) (oR Z (ZK Z Z (v:=jV x1515) Z) (oA Z Z (oA Z Z (oA Z Z (eN (zB (CK.fresh fun σ1528 hσ1529=>?_)))))))))
              have f1530:σ1528 1=jV p1:=(hσ1529 1).trans f1395
              have f1531:σ1528 2=.pointer (some ⟨b2,0,none⟩):=(hσ1529 2).trans f1396
              have f1532:σ1528 5=.pointer (some ⟨b29,0,none⟩):=(hσ1529 5).trans f1397
              have f1533:σ1528 6=.pointer (some ⟨b44,0,none⟩):=(hσ1529 6).trans f1398
              have f1534:σ1528 8=jV x1515:=(hσ1529 8).trans rfl
              have f1535:σ1528 10=jV x1465:=(hσ1529 10).trans rfl
              have f1536:σ1528 13=.slice A1524 x1513.length c1525:=(hσ1529 13).trans rfl
              have f1537:σ1528 14=.slice A1474 x1464.length c1475:=(hσ1529 14).trans rfl
              have f1538:σ1528 15=jV x1514:=(hσ1529 15).trans rfl
              clear hσ1529
              refine rR (.fl 0 (.fl 1 (.fx 2 (wTl (.nil)) .stop))) Z (oL Z (hS1527.ldBA (j:=5) Z Z f1533 Zy Zl (vs:=B6) Z Z) (oM Z f1530 ?_))
              have h1539:=h1458.le le1472
              have h1540:=h1539.le le1481
              have h1541:=h1540.le le1486
              have h1542:=h1541.le le1498
              have h1543:=h1542.le le1522
              have h1544:=h1463.le le1472
              have h1545:=h1544.le le1481
              have h1546:=h1545.le le1486
              have h1547:=h1546.le le1498
              have h1548:=h1547.le le1522
              have q:=bnd hm1517
              obtain ⟨⟨x1549,x1550,x1551⟩,h1552,hm1553⟩:=q
              try dsimp only at hm1553
              refine zQ 0 Z Z Z Z (zR Z Z Tryz.call26 (zH Z (zH Z ze)) Z) hS1527 (fun hs=>wEd (⟨(⟨l45,x48,x49,x50,x51,x52⟩:wAM),x53,l54⟩:wAD) A46 c47 A55 c56 p1 W1521 U1518 hs h1543 h1548 h1552) (.inr Z) ?_
              rintro U1554 L1555 v1556 W1557 le1558 hS1559 ⟨A1560,c1561,rfl,rfl⟩
              let B19:Res:=.row A1560 c1561 3 1 (nA KL.encI x1549)
              have hS1563:sW w U U1554 [B19,B18,.blk b1255 48 B15,.blk b1219 45 B12,.blk b2 27 B0,.blk b29 27 B5,.blk b44 34 B6] W1557:=hS1559
              refine oM Z Z (oR Z (ZK Z Z (v:=.slice A1560 x1549.length c1561) Z) (oR Z (ZK Z Z (v:=jV x1550) Z) (oR Z (ZK Z Z (v:=jV x1551) Z) (oA Z Z (oA Z Z (oA Z Z (eN (sR (wQv (.fx 11 (wPZ (.fx 16 (.fl 17 (.fl 18 (.fx 19 (.fl 20 (.fl 21 (.nil))) .stop))) .stop)) .stop)) Z (oM Z f1534 (oM Z Z (oR Z (yI Z Z Z) (oM Z Z (ifc hm1553 ?_ ?_)))))))))))))
              ·intro c1564 hm1565
               refine ZM Z Z Z (wT Z c1564) Z f1538 (ZM Z Z Z (wT Z c1564) Z Z (rU Z (wT Z c1564) (yI Z Z Z) (oR Z (zi Z (yG c1564.out) Z) (oM Z Z (ifc hm1565 ?_ ?_)))))
               ·intro c1566 hm1567
                refine ZM Z Z Z (wT Z c1566) Z f1536 (ZM Z Z Z (wT Z c1566) Z Z ?_)
                have q:=hS1563.freezeR (k:=1) (n:=x1513.length) rfl (wAN (f:=KL.encI) (sz:=1) (fun _=>rfl) x1513) (by decide)
                obtain ⟨U1568,le1569,hs1570,hS1571⟩:=q
                have hS1572:sW w U U1568 [B19,.blk b1255 48 B15,.blk b1219 45 B12,.blk b2 27 B0,.blk b29 27 B5,.blk b44 34 B6] W1557:=hS1571
                have q:=hS1572.freezeR (k:=0) (n:=x1549.length) rfl (wAN (f:=KL.encI) (sz:=1) (fun _=>rfl) x1549) (by decide)
                obtain ⟨U1573,le1574,hs1575,hS1576⟩:=q
                have hS1577:sW w U U1573 [.blk b1255 48 B15,.blk b1219 45 B12,.blk b2 27 B0,.blk b29 27 B5,.blk b44 34 B6] W1557:=hS1576
                have h1578:=hs1570.le le1574
                refine bnK hm1567 fun x1579 h1580 hm1581=>zQ 0 Z Z Z (wT Z c1566) (zR Z Z Tryz.call20 (zH Z (zH Z ze)) Z) hS1577 (fun hs=>wAt x1513 A1524 c1525 x1549 A1560 c1561 W1557 U1573 hs h1578 hs1575 h1580) (.inr Z) ?_
                rintro U1582 L1583 v1584 W1585 le1586 hS1587 ⟨rfl,rfl⟩
                have hS1588:sW w U U1582 [.blk b1255 48 B15,.blk b1219 45 B12,.blk b2 27 B0,.blk b29 27 B5,.blk b44 34 B6] W1585:=hS1587
                refine oR Z (zi Z (yG c1566.out) Z) (oM Z Z (ifc hm1581 ?_ ?_))
                ·intro c1589 hm1590
                 refine ZN Z Z Z (zJ Z Z (congrArg nD c1589.out)) (hS1588.ldBA (j:=3) Z Z f1532 Zd ZH (vs:=B5) Z Z) Z (ZN Z Z Z (zJ Z Z (congrArg nD c1589.out)) (hS1588.ldBA (j:=2) Z Z f1531 Zd ZH (vs:=B0) Z Z) Z ?_)
                 have h1591:=h1507.le le1522
                 have h1592:=h1591.le le1558
                 have h1593:=h1592.le le1569
                 have h1594:=h1593.le le1574
                 have h1595:=h1594.le le1586
                 have h1596:=h1512.le le1522
                 have h1597:=h1596.le le1558
                 have h1598:=h1597.le le1569
                 have h1599:=h1598.le le1574
                 have h1600:=h1599.le le1586
                 have h1601:=ha0.le le12
                 have h1602:=h1601.le le1059
                 have h1603:=h1602.le le1070
                 have h1604:=h1603.le le1075
                 have h1605:=h1604.le le1088
                 have h1606:=h1605.le le1092
                 have h1607:=h1606.le le1097
                 have h1608:=h1607.le le1113
                 have h1609:=h1608.le le1134
                 have h1610:=h1609.le le1154
                 have h1611:=h1610.le le1165
                 have h1612:=h1611.le le1171
                 have h1613:=h1612.le le1184
                 have h1614:=h1613.le le1207
                 have h1615:=h1614.le le1243
                 have h1616:=h1615.le le1276
                 have h1617:=h1616.le le1281
                 have h1618:=h1617.le le1293
                 have h1619:=h1618.le le1299
                 have h1620:=h1619.le le1308
                 have h1621:=h1620.le le1324
                 have h1622:=h1621.le le1353
                 have h1623:=h1622.le le1385
                 have h1624:=h1623.le le1406
                 have h1625:=h1624.le le1412
                 have h1626:=h1625.le le1425
                 have h1627:=h1626.le le1448
                 have h1628:=h1627.le le1472
                 have h1629:=h1628.le le1481
                 have h1630:=h1629.le le1486
                 have h1631:=h1630.le le1498
                 have h1632:=h1631.le le1522
                 have h1633:=h1632.le le1558
                 have h1634:=h1633.le le1569
                 have h1635:=h1634.le le1574
                 have h1636:=h1635.le le1586
                 have h1637:=ha1.le le12
                 have h1638:=h1637.le le1059
                 have h1639:=h1638.le le1070
                 have h1640:=h1639.le le1075
                 have h1641:=h1640.le le1088
                 have h1642:=h1641.le le1092
                 have h1643:=h1642.le le1097
                 have h1644:=h1643.le le1113
                 have h1645:=h1644.le le1134
                 have h1646:=h1645.le le1154
                 have h1647:=h1646.le le1165
                 have h1648:=h1647.le le1171
                 have h1649:=h1648.le le1184
                 have h1650:=h1649.le le1207
                 have h1651:=h1650.le le1243
                 have h1652:=h1651.le le1276
                 have h1653:=h1652.le le1281
                 have h1654:=h1653.le le1293
                 have h1655:=h1654.le le1299
                 have h1656:=h1655.le le1308
                 have h1657:=h1656.le le1324
                 have h1658:=h1657.le le1353
                 have h1659:=h1658.le le1385
                 have h1660:=h1659.le le1406
                 have h1661:=h1660.le le1412
                 have h1662:=h1661.le le1425
                 have h1663:=h1662.le le1448
                 have h1664:=h1663.le le1472
                 have h1665:=h1664.le le1481
                 have h1666:=h1665.le le1486
                 have h1667:=h1666.le le1498
                 have h1668:=h1667.le le1522
                 have h1669:=h1668.le le1558
                 have h1670:=h1669.le le1569
                 have h1671:=h1670.le le1574
                 have h1672:=h1671.le le1586
                 refine bnK hm1590 fun x1673 h1674 hm1675=>zQ 0 Z Z Z (zJ Z Z (congrArg nD c1589.out)) (zR Z Z Tryz.call27 (zH Z (zH Z ze)) Z) hS1588 (fun hs=>wFY (⟨(⟨l30,x33,x34,x35,x36,x37⟩:wAB),x38,l39⟩:wAA) A31 c32 A40 c41 p0 pA0_0_0 pc0_0_0 pA0_2 pc0_2 W1585 U1582 hs h1595 h1600 h1636 h1672 h1674) (.inr Z) ?_
                 rintro U1676 L1677 v1678 W1679 le1680 hS1681 ⟨rfl,rfl⟩
                 have hS1682:sW w U U1676 [.blk b1255 48 B15,.blk b1219 45 B12,.blk b2 27 B0,.blk b29 27 B5,.blk b44 34 B6] W1679:=hS1681
                 refine oR Z (zi Z (congrArg nD c1589.out) Z) (oM Z Z (ifc hm1675 ?_ ?_))
                 ·intro c1683 hm1684
                  refine bnK hm1684 fun x1685 h1686 hm1687=>zQ 0 Z Z Z (zJ Z Z (congrArg nD c1683.out)) (zR Z Z Tryz.call10 ze Z) hS1682 (fun hs=>wDT W1679 U1676 hs h1686) (.inr Z) ?_
                  rintro U1688 L1689 v1690 W1691 le1692 hS1693 ⟨rfl,rfl⟩
                  have hS1694:sW w U U1688 [.blk b1255 48 B15,.blk b1219 45 B12,.blk b2 27 B0,.blk b29 27 B5,.blk b44 34 B6] W1691:=hS1693
                  refine oR Z (zi Z (congrArg nD c1683.out) Z) (oA Z Z (eN (zM ?_)))
                  have hE:=nB hm1687;first | subst r | cases hE
                  exact ⟨rfl,_,(zt rfl),U1688,_,(hS1694.pick [] _ (by decide) rfl),rfl,rfl⟩
                 ·intro c1683 hm1695
                  refine Zj Z Z Z (zf Z Z (congrArg nD (nE.2 c1683.out)) Z) (oR Z (zh Z (congrArg nD (nE.2 c1683.out)) Z) (oA Z Z (eN (zM ?_))))
                  have hE:=nB hm1695;first | subst r | cases hE
                  exact ⟨rfl,_,(zt rfl),U1676,_,(hS1682.pick [] _ (by decide) rfl),rfl,rfl⟩
                ·intro c1589 hm1696
                 refine ZA Z Z Z (zf Z Z (congrArg nD (nE.2 c1589.out)) Z) (ZA Z Z Z (zf Z Z (congrArg nD (nE.2 c1589.out)) Z) (Zj Z Z Z (zf Z Z (congrArg nD (nE.2 c1589.out)) Z) (oR Z (zh Z (congrArg nD (nE.2 c1589.out)) Z) (oM Z Z (Zj Z Z Z (zf Z Z Z Z) (oR Z (zh Z Z Z) (oA Z Z (eN (zM ?_)))))))))
                 have hE:=nB hm1696;first | subst r | cases hE
                 exact ⟨rfl,_,(zt rfl),U1582,_,(hS1588.pick [] _ (by decide) rfl),rfl,rfl⟩
               ·intro c1566 hm1697
                refine oF Z c1566 (oF Z c1566 (Zj Z Z Z (zf Z Z (zw c1566.out) Z) (oR Z (zh Z (zw c1566.out) Z) (oM Z Z (oN Z (oN Z (Zj Z Z Z (zf Z Z Z Z) (oR Z (zh Z Z Z) (oM Z Z (Zj Z Z Z (zf Z Z Z Z) (oR Z (zh Z Z Z) (oA Z Z (eN (zM ?_))))))))))))))
                have hE:=nB hm1697;first | subst r | cases hE
                exact ⟨rfl,_,(zt rfl),U1554,_,(hS1563.pick [] _ (by decide) rfl),rfl,rfl⟩
              ·intro c1564 hm1698
               refine oF Z c1564 (oF Z c1564 (oF Z c1564 (oR Z (zh Z (zw c1564.out) Z) (oM Z Z (oN Z (oN Z (Zj Z Z Z (zf Z Z Z Z) (oR Z (zh Z Z Z) (oM Z Z (oN Z (oN Z (Zj Z Z Z (zf Z Z Z Z) (oR Z (zh Z Z Z) (oM Z Z (Zj Z Z Z (zf Z Z Z Z) (oR Z (zh Z Z Z) (oA Z Z (eN (zM ?_)))))))))))))))))))
               have hE:=nB hm1698;first | subst r | cases hE
               exact ⟨rfl,_,(zt rfl),U1554,_,(hS1563.pick [] _ (by decide) rfl),rfl,rfl⟩
             ·intro c1501 hm1699
              refine zp (nF (c1501.out)) (sR fL1 Z (oA Z Z (eN (zM (zC ?_)))))
              have hE:=nB hm1699;first | subst r | cases hE
              exact ⟨rfl,_,(zt rfl),U1494,_,(hS1500.pick [] _ (by decide) rfl),rfl,rfl⟩
            ·intro c1478 hm1700
             refine oT Z c1478 (oT Z c1478 (Zj Z Z Z (zf Z Z (yG c1478.out) Z) (oT Z c1478 (oR Z (zi Z (yG c1478.out) Z) (eN (zp Z (sR fL1 Z (oA Z Z (eN (zM (zC ?_)))))))))))
             have hE:=nB hm1700;first | subst r | cases hE
             exact ⟨rfl,_,(zt rfl),U1468,_,(hS1477.pick [] _ (by decide) rfl),rfl,rfl⟩
           ·intro c1428 hm1701
            refine zp (nF (c1428.out)) (sR fL1 Z (oA Z Z (eN (zM (zC ?_)))))
            have hE:=nB hm1701;first | subst r | cases hE
            exact ⟨rfl,_,(zt rfl),U1421,_,(hS1427.pick [] _ (by decide) rfl),rfl,rfl⟩
          ·intro c1403 hm1702
           refine oT Z c1403 (oT Z c1403 (Zj Z Z Z (zf Z Z (yG c1403.out) Z) (oT Z c1403 (oR Z (zi Z (yG c1403.out) Z) (eN (zp Z (sR fL1 Z (oA Z Z (eN (zM (zC ?_)))))))))))
           have hE:=nB hm1702;first | subst r | cases hE
           exact ⟨rfl,_,(zt rfl),U1381,_,(hS1392.pick [] _ (by decide) rfl),rfl,rfl⟩
         ·intro c1327 hm1703
          refine zp (nF (c1327.out)) (sR fL1 Z (oA Z Z (eN (zM (zC ?_)))))
          have hE:=nB hm1703;first | subst r | cases hE
          exact ⟨rfl,_,(zt rfl),U1320,_,(hS1326.pick [] _ (by decide) rfl),rfl,rfl⟩
        ·intro c1296 hm1704
         refine ZA Z Z Z (zf Z Z (nF (c1296.out)) Z) (ZA Z Z Z (zf Z Z (nF (c1296.out)) Z) (ZA Z Z Z (zf Z Z (nF (c1296.out)) Z) (ZA Z Z Z (zf Z Z (nF (c1296.out)) Z) (Zj Z Z Z (zf Z Z (nF (c1296.out)) Z) (ZA Z Z Z (zf Z Z (nF (c1296.out)) Z) (oR Z (zi Z (nF (c1296.out)) Z) (eN (zp Z (sR fL1 Z (oA Z Z (eN (zM (zC ?_)))))))))))))
         have hE:=nB hm1704;first | subst r | cases hE
         exact ⟨rfl,_,(zt rfl),U1289,_,(hS1295.pick [] _ (by decide) rfl),rfl,rfl⟩
       ·intro c1273 hm1705
        refine oT Z c1273 (oT Z c1273 (oT Z c1273 (oT Z c1273 (Zj Z Z Z (zf Z Z (yG c1273.out) Z) (oT Z c1273 (oR Z (zi Z (yG c1273.out) Z) (oM Z Z (oN Z (oN Z (oN Z (oN Z (Zj Z Z Z (zf Z Z Z Z) (oN Z (oR Z (zi Z Z Z) (eN (zp Z (sR fL1 Z (oA Z Z (eN (zM (zC ?_)))))))))))))))))))))
        have hE:=nB hm1705;first | subst r | cases hE
        exact ⟨rfl,_,(zt rfl),U1239,_,(hS1260.pick [] _ (by decide) rfl),rfl,rfl⟩
      ·intro c1271 hm1706
       refine oT Z c1271 (oT Z c1271 (oT Z c1271 (oT Z c1271 (oT Z c1271 (oR Z (zi Z (yG c1271.out) Z) (oM Z Z (oN Z (oN Z (oN Z (oN Z (Zj Z Z Z (zf Z Z Z Z) (oN Z (oR Z (zi Z Z Z) (oM Z Z (oN Z (oN Z (oN Z (oN Z (Zj Z Z Z (zf Z Z Z Z) (oN Z (oR Z (zi Z Z Z) (eN (zp Z (sR fL1 Z (oA Z Z (eN (zM (zC ?_))))))))))))))))))))))))))))
       have hE:=nB hm1706;first | subst r | cases hE
       exact ⟨rfl,_,(zt rfl),U1239,_,(hS1260.pick [] _ (by decide) rfl),rfl,rfl⟩
     ·intro c1187 hm1707
      refine zp (nF (c1187.out)) (sR fL1 Z (oA Z Z (eN (zM (zC ?_)))))
      have hE:=nB hm1707;first | subst r | cases hE
      exact ⟨rfl,_,(zt rfl),U1180,_,(hS1186.pick [] _ (by decide) rfl),rfl,rfl⟩
    ·intro c1162 hm1708
     refine oT Z c1162 (oT Z c1162 (Zj Z Z Z (zf Z Z (yG c1162.out) Z) (oT Z c1162 (oR Z (zi Z (yG c1162.out) Z) (eN (zp Z (sR fL1 Z (oA Z Z (eN (zM (zC ?_)))))))))))
     have hE:=nB hm1708;first | subst r | cases hE
     exact ⟨rfl,_,(zt rfl),U1150,_,(hS1161.pick [] _ (by decide) rfl),rfl,rfl⟩
   ·intro c1116 hm1709
    refine cT Z c1116 (sR fL1 Z (oA Z Z (eN (zM (zC ?_)))))
    have hE:=nB hm1709;first | subst r | cases hE
    exact ⟨rfl,_,(zt rfl),U1109,_,(hS1115.pick [] _ (by decide) rfl),rfl,rfl⟩
end Go.Proofs.YthbficbpebiekaaGreat
