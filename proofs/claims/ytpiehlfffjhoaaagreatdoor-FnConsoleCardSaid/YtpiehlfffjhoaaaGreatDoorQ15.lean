/- Styles: a valid style, the program's. builds (46 s). -/
import Derived.Test.YtpiehlfffjhoaaaGreatDoorQ0
import Derived.Test.YtpiehlfffjhoaaaGreatDoorQ13
namespace Go.Proofs.YtpiehlfffjhoaaaGreatDoor
open Go.RowKit
set_option maxRecDepth 100000 in
set_option maxHeartbeats 8000000 in
theorem ValidStyle_c (x : Style) (hs : Hid (x.upper.size ≤ 4194304 ∧ x.color.size ≤ 4194304 ∧ x.lining.size ≤ 4194304 ∧ x.sole.size ≤ 4194304)) (w : World) : Calls Tryz.prog 62 #[.agg #[.string x.upper, .string x.color, .string x.lining, .string x.sole, .int .i64 x.thick, .int .i64 x.heel, .int .i64 x.eyelets, .int .i64 x.density, .bool x.double]] w (Ret (.bool (styB x)) w) := by
 obtain ⟨u, co, li, so, th, he, ey, de, db⟩ := x
 dsimp only at hs ⊢
 obtain ⟨z1, z2, z3, z4⟩ := hs.out
 have H1 := fun w => IsName_c u (by omega) w
 have H2 := fun w => IsName_c co (by omega) w
 have H3 := fun w => IsName_c li (by omega) w
 have H4 := fun w => IsName_c so (by omega) w
 have H5 := fun w => within_c th 10 300 w
 have H6 := fun w => within_c he 0 1200 w
 have H7 := fun w => within_c ey 0 12 w
 have H8 := fun w => within_c de 10 80 w
 have hE := empty_beq li
 have hP : styB ⟨u, co, li, so, th, he, ey, de, db⟩ = (nameB u && nameB co && (decide (li.size = 0) || nameB li) && nameB so && inB th 10 300 && inB he 0 1200 && inB ey 0 12 && (decide (de = 0) && !db || inB de 10 80)) := rfl
 obtain ⟨b1, e1⟩ : ∃ z, z = nameB u := ⟨_, rfl⟩
 obtain ⟨b2, e2⟩ : ∃ z, z = nameB co := ⟨_, rfl⟩
 obtain ⟨b3, e3⟩ : ∃ z, z = nameB li := ⟨_, rfl⟩
 obtain ⟨b4, e4⟩ : ∃ z, z = nameB so := ⟨_, rfl⟩
 obtain ⟨b5, e5⟩ : ∃ z, z = inB th 10 300 := ⟨_, rfl⟩
 obtain ⟨b6, e6⟩ : ∃ z, z = inB he 0 1200 := ⟨_, rfl⟩
 obtain ⟨b7, e7⟩ : ∃ z, z = inB ey 0 12 := ⟨_, rfl⟩
 obtain ⟨b8, e8⟩ : ∃ z, z = inB de 10 80 := ⟨_, rfl⟩
 obtain ⟨q3, f3⟩ : ∃ z, z = decide (li.size = 0) := ⟨_, rfl⟩
 obtain ⟨q8, f8⟩ : ∃ z, z = decide (de = 0) := ⟨_, rfl⟩
 have hD : (de == 0) = q8 := by rw [f8]; rfl
 rw [← e1] at H1 hP
 rw [← e2] at H2 hP
 rw [← e3] at H3 hP
 rw [← e4] at H4 hP
 rw [← e5] at H5 hP
 rw [← e6] at H6 hP
 rw [← e7] at H7 hP
 rw [← e8] at H8 hP
 rw [← f3] at hE hP
 rw [← f8] at hP
 replace H1 := qH H1
 replace H2 := qH H2
 replace H3 := qH H3
 replace H4 := qH H4
 replace H5 := qH H5
 replace H6 := qH H6
 replace H7 := qH H7
 replace H8 := qH H8
 have HP := qH hP
 clear hP e1 e2 e3 e4 e5 e6 e7 e8 f3 f8 z1 z2 z3 z4 hs
 obtain ⟨W, hW⟩ : ∃ W, W = w.alloc (Obj.cells #[.string u, .string co, .string li, .string so, .int .i64 th, .int .i64 he, .int .i64 ey, .int .i64 de, .bool db] 30) := ⟨_, rfl⟩
 obtain ⟨g, hg⟩ : ∃ g, g = w.heap.size := ⟨_, rfl⟩
 have hv : Below w.heap.size w W := by rw [hW]; exact bl_alloc (Below.refl _ _) _
 have hB : Blk W g 30 #[.string u, .string co, .string li, .string so, .int .i64 th, .int .i64 he, .int .i64 ey, .int .i64 de, .bool db] := by rw [hW, hg]; exact Blk.new _ _ _
 have HW := qH hW
 have HG := qH hg
 clear hW hg
 obtain ⟨k0, k1, k2, k3, k4, k5, k6, k7, k8⟩ := qC9 hB
 clear hB
 go_enter Tryz.func62, Tryz.ntmps62
 go_upto_region 1 with fail
 rw [← HW.out, ← HG.out]
 clear HW HG
 cases b1
 · skip
   go_wp2_with fail
   refine (H1.out _).mono ?_
   rintro e w' ⟨rfl, hq⟩
   rw [hq]
   clear hq w'
   go_wp2_with fail
   go_returns
   exact Ret.mk (vb (by rw [HP.out]; rfl)) hv
 · skip
   cases b2
   · skip
     go_wp2_with fail
     refine (H1.out _).mono ?_
     rintro e w' ⟨rfl, hq⟩
     rw [hq]
     clear hq w'
     go_wp2_with fail
     refine (H2.out _).mono ?_
     rintro e w' ⟨rfl, hq⟩
     rw [hq]
     clear hq w'
     go_wp2_with fail
     go_returns
     exact Ret.mk (vb (by rw [HP.out]; rfl)) hv
   · skip
     cases q3
     · skip
       cases b3
       · skip
         go_wp2_with fail
         refine (H1.out _).mono ?_
         rintro e w' ⟨rfl, hq⟩
         rw [hq]
         clear hq w'
         go_wp2_with fail
         refine (H2.out _).mono ?_
         rintro e w' ⟨rfl, hq⟩
         rw [hq]
         clear hq w'
         go_wp2_with fail
         refine (H3.out _).mono ?_
         rintro e w' ⟨rfl, hq⟩
         rw [hq]
         clear hq w'
         go_wp2_with fail
         go_returns
         exact Ret.mk (vb (by rw [HP.out]; rfl)) hv
       · skip
         cases b4
         · skip
           go_wp2_with fail
           refine (H1.out _).mono ?_
           rintro e w' ⟨rfl, hq⟩
           rw [hq]
           clear hq w'
           go_wp2_with fail
           refine (H2.out _).mono ?_
           rintro e w' ⟨rfl, hq⟩
           rw [hq]
           clear hq w'
           go_wp2_with fail
           refine (H3.out _).mono ?_
           rintro e w' ⟨rfl, hq⟩
           rw [hq]
           clear hq w'
           go_wp2_with fail
           refine (H4.out _).mono ?_
           rintro e w' ⟨rfl, hq⟩
           rw [hq]
           clear hq w'
           go_wp2_with fail
           go_returns
           exact Ret.mk (vb (by rw [HP.out]; rfl)) hv
         · skip
           cases b5
           · skip
             go_wp2_with fail
             refine (H1.out _).mono ?_
             rintro e w' ⟨rfl, hq⟩
             rw [hq]
             clear hq w'
             go_wp2_with fail
             refine (H2.out _).mono ?_
             rintro e w' ⟨rfl, hq⟩
             rw [hq]
             clear hq w'
             go_wp2_with fail
             refine (H3.out _).mono ?_
             rintro e w' ⟨rfl, hq⟩
             rw [hq]
             clear hq w'
             go_wp2_with fail
             refine (H4.out _).mono ?_
             rintro e w' ⟨rfl, hq⟩
             rw [hq]
             clear hq w'
             go_wp2_with fail
             refine (H5.out _).mono ?_
             rintro e w' ⟨rfl, hq⟩
             rw [hq]
             clear hq w'
             go_wp2_with fail
             go_returns
             exact Ret.mk (vb (by rw [HP.out]; rfl)) hv
           · skip
             cases b6
             · skip
               go_wp2_with fail
               refine (H1.out _).mono ?_
               rintro e w' ⟨rfl, hq⟩
               rw [hq]
               clear hq w'
               go_wp2_with fail
               refine (H2.out _).mono ?_
               rintro e w' ⟨rfl, hq⟩
               rw [hq]
               clear hq w'
               go_wp2_with fail
               refine (H3.out _).mono ?_
               rintro e w' ⟨rfl, hq⟩
               rw [hq]
               clear hq w'
               go_wp2_with fail
               refine (H4.out _).mono ?_
               rintro e w' ⟨rfl, hq⟩
               rw [hq]
               clear hq w'
               go_wp2_with fail
               refine (H5.out _).mono ?_
               rintro e w' ⟨rfl, hq⟩
               rw [hq]
               clear hq w'
               go_wp2_with fail
               refine (H6.out _).mono ?_
               rintro e w' ⟨rfl, hq⟩
               rw [hq]
               clear hq w'
               go_wp2_with fail
               go_returns
               exact Ret.mk (vb (by rw [HP.out]; rfl)) hv
             · skip
               cases b7
               · skip
                 go_wp2_with fail
                 refine (H1.out _).mono ?_
                 rintro e w' ⟨rfl, hq⟩
                 rw [hq]
                 clear hq w'
                 go_wp2_with fail
                 refine (H2.out _).mono ?_
                 rintro e w' ⟨rfl, hq⟩
                 rw [hq]
                 clear hq w'
                 go_wp2_with fail
                 refine (H3.out _).mono ?_
                 rintro e w' ⟨rfl, hq⟩
                 rw [hq]
                 clear hq w'
                 go_wp2_with fail
                 refine (H4.out _).mono ?_
                 rintro e w' ⟨rfl, hq⟩
                 rw [hq]
                 clear hq w'
                 go_wp2_with fail
                 refine (H5.out _).mono ?_
                 rintro e w' ⟨rfl, hq⟩
                 rw [hq]
                 clear hq w'
                 go_wp2_with fail
                 refine (H6.out _).mono ?_
                 rintro e w' ⟨rfl, hq⟩
                 rw [hq]
                 clear hq w'
                 go_wp2_with fail
                 refine (H7.out _).mono ?_
                 rintro e w' ⟨rfl, hq⟩
                 rw [hq]
                 clear hq w'
                 go_wp2_with fail
                 go_returns
                 exact Ret.mk (vb (by rw [HP.out]; rfl)) hv
               · skip
                 cases q8
                 · skip
                   cases b8
                   · skip
                     go_wp2_with fail
                     refine (H1.out _).mono ?_
                     rintro e w' ⟨rfl, hq⟩
                     rw [hq]
                     clear hq w'
                     go_wp2_with fail
                     refine (H2.out _).mono ?_
                     rintro e w' ⟨rfl, hq⟩
                     rw [hq]
                     clear hq w'
                     go_wp2_with fail
                     refine (H3.out _).mono ?_
                     rintro e w' ⟨rfl, hq⟩
                     rw [hq]
                     clear hq w'
                     go_wp2_with fail
                     refine (H4.out _).mono ?_
                     rintro e w' ⟨rfl, hq⟩
                     rw [hq]
                     clear hq w'
                     go_wp2_with fail
                     refine (H5.out _).mono ?_
                     rintro e w' ⟨rfl, hq⟩
                     rw [hq]
                     clear hq w'
                     go_wp2_with fail
                     refine (H6.out _).mono ?_
                     rintro e w' ⟨rfl, hq⟩
                     rw [hq]
                     clear hq w'
                     go_wp2_with fail
                     refine (H7.out _).mono ?_
                     rintro e w' ⟨rfl, hq⟩
                     rw [hq]
                     clear hq w'
                     go_wp2_with fail
                     refine (H8.out _).mono ?_
                     rintro e w' ⟨rfl, hq⟩
                     rw [hq]
                     clear hq w'
                     go_wp2_with fail
                     go_returns
                     exact Ret.mk (vb (by rw [HP.out]; rfl)) hv
                   · skip
                     go_wp2_with fail
                     refine (H1.out _).mono ?_
                     rintro e w' ⟨rfl, hq⟩
                     rw [hq]
                     clear hq w'
                     go_wp2_with fail
                     refine (H2.out _).mono ?_
                     rintro e w' ⟨rfl, hq⟩
                     rw [hq]
                     clear hq w'
                     go_wp2_with fail
                     refine (H3.out _).mono ?_
                     rintro e w' ⟨rfl, hq⟩
                     rw [hq]
                     clear hq w'
                     go_wp2_with fail
                     refine (H4.out _).mono ?_
                     rintro e w' ⟨rfl, hq⟩
                     rw [hq]
                     clear hq w'
                     go_wp2_with fail
                     refine (H5.out _).mono ?_
                     rintro e w' ⟨rfl, hq⟩
                     rw [hq]
                     clear hq w'
                     go_wp2_with fail
                     refine (H6.out _).mono ?_
                     rintro e w' ⟨rfl, hq⟩
                     rw [hq]
                     clear hq w'
                     go_wp2_with fail
                     refine (H7.out _).mono ?_
                     rintro e w' ⟨rfl, hq⟩
                     rw [hq]
                     clear hq w'
                     go_wp2_with fail
                     refine (H8.out _).mono ?_
                     rintro e w' ⟨rfl, hq⟩
                     rw [hq]
                     clear hq w'
                     go_wp2_with fail
                     go_returns
                     exact Ret.mk (vb (by rw [HP.out]; rfl)) hv
                 · skip
                   cases db
                   · skip
                     go_wp2_with fail
                     refine (H1.out _).mono ?_
                     rintro e w' ⟨rfl, hq⟩
                     rw [hq]
                     clear hq w'
                     go_wp2_with fail
                     refine (H2.out _).mono ?_
                     rintro e w' ⟨rfl, hq⟩
                     rw [hq]
                     clear hq w'
                     go_wp2_with fail
                     refine (H3.out _).mono ?_
                     rintro e w' ⟨rfl, hq⟩
                     rw [hq]
                     clear hq w'
                     go_wp2_with fail
                     refine (H4.out _).mono ?_
                     rintro e w' ⟨rfl, hq⟩
                     rw [hq]
                     clear hq w'
                     go_wp2_with fail
                     refine (H5.out _).mono ?_
                     rintro e w' ⟨rfl, hq⟩
                     rw [hq]
                     clear hq w'
                     go_wp2_with fail
                     refine (H6.out _).mono ?_
                     rintro e w' ⟨rfl, hq⟩
                     rw [hq]
                     clear hq w'
                     go_wp2_with fail
                     refine (H7.out _).mono ?_
                     rintro e w' ⟨rfl, hq⟩
                     rw [hq]
                     clear hq w'
                     go_wp2_with fail
                     go_returns
                     exact Ret.mk (vb (by rw [HP.out]; rfl)) hv
                   · skip
                     cases b8
                     · skip
                       go_wp2_with fail
                       refine (H1.out _).mono ?_
                       rintro e w' ⟨rfl, hq⟩
                       rw [hq]
                       clear hq w'
                       go_wp2_with fail
                       refine (H2.out _).mono ?_
                       rintro e w' ⟨rfl, hq⟩
                       rw [hq]
                       clear hq w'
                       go_wp2_with fail
                       refine (H3.out _).mono ?_
                       rintro e w' ⟨rfl, hq⟩
                       rw [hq]
                       clear hq w'
                       go_wp2_with fail
                       refine (H4.out _).mono ?_
                       rintro e w' ⟨rfl, hq⟩
                       rw [hq]
                       clear hq w'
                       go_wp2_with fail
                       refine (H5.out _).mono ?_
                       rintro e w' ⟨rfl, hq⟩
                       rw [hq]
                       clear hq w'
                       go_wp2_with fail
                       refine (H6.out _).mono ?_
                       rintro e w' ⟨rfl, hq⟩
                       rw [hq]
                       clear hq w'
                       go_wp2_with fail
                       refine (H7.out _).mono ?_
                       rintro e w' ⟨rfl, hq⟩
                       rw [hq]
                       clear hq w'
                       go_wp2_with fail
                       refine (H8.out _).mono ?_
                       rintro e w' ⟨rfl, hq⟩
                       rw [hq]
                       clear hq w'
                       go_wp2_with fail
                       go_returns
                       exact Ret.mk (vb (by rw [HP.out]; rfl)) hv
                     · skip
                       go_wp2_with fail
                       refine (H1.out _).mono ?_
                       rintro e w' ⟨rfl, hq⟩
                       rw [hq]
                       clear hq w'
                       go_wp2_with fail
                       refine (H2.out _).mono ?_
                       rintro e w' ⟨rfl, hq⟩
                       rw [hq]
                       clear hq w'
                       go_wp2_with fail
                       refine (H3.out _).mono ?_
                       rintro e w' ⟨rfl, hq⟩
                       rw [hq]
                       clear hq w'
                       go_wp2_with fail
                       refine (H4.out _).mono ?_
                       rintro e w' ⟨rfl, hq⟩
                       rw [hq]
                       clear hq w'
                       go_wp2_with fail
                       refine (H5.out _).mono ?_
                       rintro e w' ⟨rfl, hq⟩
                       rw [hq]
                       clear hq w'
                       go_wp2_with fail
                       refine (H6.out _).mono ?_
                       rintro e w' ⟨rfl, hq⟩
                       rw [hq]
                       clear hq w'
                       go_wp2_with fail
                       refine (H7.out _).mono ?_
                       rintro e w' ⟨rfl, hq⟩
                       rw [hq]
                       clear hq w'
                       go_wp2_with fail
                       refine (H8.out _).mono ?_
                       rintro e w' ⟨rfl, hq⟩
                       rw [hq]
                       clear hq w'
                       go_wp2_with fail
                       go_returns
                       exact Ret.mk (vb (by rw [HP.out]; rfl)) hv
     · skip
       cases b4
       · skip
         go_wp2_with fail
         refine (H1.out _).mono ?_
         rintro e w' ⟨rfl, hq⟩
         rw [hq]
         clear hq w'
         go_wp2_with fail
         refine (H2.out _).mono ?_
         rintro e w' ⟨rfl, hq⟩
         rw [hq]
         clear hq w'
         go_wp2_with fail
         refine (H4.out _).mono ?_
         rintro e w' ⟨rfl, hq⟩
         rw [hq]
         clear hq w'
         go_wp2_with fail
         go_returns
         exact Ret.mk (vb (by rw [HP.out]; rfl)) hv
       · skip
         cases b5
         · skip
           go_wp2_with fail
           refine (H1.out _).mono ?_
           rintro e w' ⟨rfl, hq⟩
           rw [hq]
           clear hq w'
           go_wp2_with fail
           refine (H2.out _).mono ?_
           rintro e w' ⟨rfl, hq⟩
           rw [hq]
           clear hq w'
           go_wp2_with fail
           refine (H4.out _).mono ?_
           rintro e w' ⟨rfl, hq⟩
           rw [hq]
           clear hq w'
           go_wp2_with fail
           refine (H5.out _).mono ?_
           rintro e w' ⟨rfl, hq⟩
           rw [hq]
           clear hq w'
           go_wp2_with fail
           go_returns
           exact Ret.mk (vb (by rw [HP.out]; rfl)) hv
         · skip
           cases b6
           · skip
             go_wp2_with fail
             refine (H1.out _).mono ?_
             rintro e w' ⟨rfl, hq⟩
             rw [hq]
             clear hq w'
             go_wp2_with fail
             refine (H2.out _).mono ?_
             rintro e w' ⟨rfl, hq⟩
             rw [hq]
             clear hq w'
             go_wp2_with fail
             refine (H4.out _).mono ?_
             rintro e w' ⟨rfl, hq⟩
             rw [hq]
             clear hq w'
             go_wp2_with fail
             refine (H5.out _).mono ?_
             rintro e w' ⟨rfl, hq⟩
             rw [hq]
             clear hq w'
             go_wp2_with fail
             refine (H6.out _).mono ?_
             rintro e w' ⟨rfl, hq⟩
             rw [hq]
             clear hq w'
             go_wp2_with fail
             go_returns
             exact Ret.mk (vb (by rw [HP.out]; rfl)) hv
           · skip
             cases b7
             · skip
               go_wp2_with fail
               refine (H1.out _).mono ?_
               rintro e w' ⟨rfl, hq⟩
               rw [hq]
               clear hq w'
               go_wp2_with fail
               refine (H2.out _).mono ?_
               rintro e w' ⟨rfl, hq⟩
               rw [hq]
               clear hq w'
               go_wp2_with fail
               refine (H4.out _).mono ?_
               rintro e w' ⟨rfl, hq⟩
               rw [hq]
               clear hq w'
               go_wp2_with fail
               refine (H5.out _).mono ?_
               rintro e w' ⟨rfl, hq⟩
               rw [hq]
               clear hq w'
               go_wp2_with fail
               refine (H6.out _).mono ?_
               rintro e w' ⟨rfl, hq⟩
               rw [hq]
               clear hq w'
               go_wp2_with fail
               refine (H7.out _).mono ?_
               rintro e w' ⟨rfl, hq⟩
               rw [hq]
               clear hq w'
               go_wp2_with fail
               go_returns
               exact Ret.mk (vb (by rw [HP.out]; rfl)) hv
             · skip
               cases q8
               · skip
                 cases b8
                 · skip
                   go_wp2_with fail
                   refine (H1.out _).mono ?_
                   rintro e w' ⟨rfl, hq⟩
                   rw [hq]
                   clear hq w'
                   go_wp2_with fail
                   refine (H2.out _).mono ?_
                   rintro e w' ⟨rfl, hq⟩
                   rw [hq]
                   clear hq w'
                   go_wp2_with fail
                   refine (H4.out _).mono ?_
                   rintro e w' ⟨rfl, hq⟩
                   rw [hq]
                   clear hq w'
                   go_wp2_with fail
                   refine (H5.out _).mono ?_
                   rintro e w' ⟨rfl, hq⟩
                   rw [hq]
                   clear hq w'
                   go_wp2_with fail
                   refine (H6.out _).mono ?_
                   rintro e w' ⟨rfl, hq⟩
                   rw [hq]
                   clear hq w'
                   go_wp2_with fail
                   refine (H7.out _).mono ?_
                   rintro e w' ⟨rfl, hq⟩
                   rw [hq]
                   clear hq w'
                   go_wp2_with fail
                   refine (H8.out _).mono ?_
                   rintro e w' ⟨rfl, hq⟩
                   rw [hq]
                   clear hq w'
                   go_wp2_with fail
                   go_returns
                   exact Ret.mk (vb (by rw [HP.out]; rfl)) hv
                 · skip
                   go_wp2_with fail
                   refine (H1.out _).mono ?_
                   rintro e w' ⟨rfl, hq⟩
                   rw [hq]
                   clear hq w'
                   go_wp2_with fail
                   refine (H2.out _).mono ?_
                   rintro e w' ⟨rfl, hq⟩
                   rw [hq]
                   clear hq w'
                   go_wp2_with fail
                   refine (H4.out _).mono ?_
                   rintro e w' ⟨rfl, hq⟩
                   rw [hq]
                   clear hq w'
                   go_wp2_with fail
                   refine (H5.out _).mono ?_
                   rintro e w' ⟨rfl, hq⟩
                   rw [hq]
                   clear hq w'
                   go_wp2_with fail
                   refine (H6.out _).mono ?_
                   rintro e w' ⟨rfl, hq⟩
                   rw [hq]
                   clear hq w'
                   go_wp2_with fail
                   refine (H7.out _).mono ?_
                   rintro e w' ⟨rfl, hq⟩
                   rw [hq]
                   clear hq w'
                   go_wp2_with fail
                   refine (H8.out _).mono ?_
                   rintro e w' ⟨rfl, hq⟩
                   rw [hq]
                   clear hq w'
                   go_wp2_with fail
                   go_returns
                   exact Ret.mk (vb (by rw [HP.out]; rfl)) hv
               · skip
                 cases db
                 · skip
                   go_wp2_with fail
                   refine (H1.out _).mono ?_
                   rintro e w' ⟨rfl, hq⟩
                   rw [hq]
                   clear hq w'
                   go_wp2_with fail
                   refine (H2.out _).mono ?_
                   rintro e w' ⟨rfl, hq⟩
                   rw [hq]
                   clear hq w'
                   go_wp2_with fail
                   refine (H4.out _).mono ?_
                   rintro e w' ⟨rfl, hq⟩
                   rw [hq]
                   clear hq w'
                   go_wp2_with fail
                   refine (H5.out _).mono ?_
                   rintro e w' ⟨rfl, hq⟩
                   rw [hq]
                   clear hq w'
                   go_wp2_with fail
                   refine (H6.out _).mono ?_
                   rintro e w' ⟨rfl, hq⟩
                   rw [hq]
                   clear hq w'
                   go_wp2_with fail
                   refine (H7.out _).mono ?_
                   rintro e w' ⟨rfl, hq⟩
                   rw [hq]
                   clear hq w'
                   go_wp2_with fail
                   go_returns
                   exact Ret.mk (vb (by rw [HP.out]; rfl)) hv
                 · skip
                   cases b8
                   · skip
                     go_wp2_with fail
                     refine (H1.out _).mono ?_
                     rintro e w' ⟨rfl, hq⟩
                     rw [hq]
                     clear hq w'
                     go_wp2_with fail
                     refine (H2.out _).mono ?_
                     rintro e w' ⟨rfl, hq⟩
                     rw [hq]
                     clear hq w'
                     go_wp2_with fail
                     refine (H4.out _).mono ?_
                     rintro e w' ⟨rfl, hq⟩
                     rw [hq]
                     clear hq w'
                     go_wp2_with fail
                     refine (H5.out _).mono ?_
                     rintro e w' ⟨rfl, hq⟩
                     rw [hq]
                     clear hq w'
                     go_wp2_with fail
                     refine (H6.out _).mono ?_
                     rintro e w' ⟨rfl, hq⟩
                     rw [hq]
                     clear hq w'
                     go_wp2_with fail
                     refine (H7.out _).mono ?_
                     rintro e w' ⟨rfl, hq⟩
                     rw [hq]
                     clear hq w'
                     go_wp2_with fail
                     refine (H8.out _).mono ?_
                     rintro e w' ⟨rfl, hq⟩
                     rw [hq]
                     clear hq w'
                     go_wp2_with fail
                     go_returns
                     exact Ret.mk (vb (by rw [HP.out]; rfl)) hv
                   · skip
                     go_wp2_with fail
                     refine (H1.out _).mono ?_
                     rintro e w' ⟨rfl, hq⟩
                     rw [hq]
                     clear hq w'
                     go_wp2_with fail
                     refine (H2.out _).mono ?_
                     rintro e w' ⟨rfl, hq⟩
                     rw [hq]
                     clear hq w'
                     go_wp2_with fail
                     refine (H4.out _).mono ?_
                     rintro e w' ⟨rfl, hq⟩
                     rw [hq]
                     clear hq w'
                     go_wp2_with fail
                     refine (H5.out _).mono ?_
                     rintro e w' ⟨rfl, hq⟩
                     rw [hq]
                     clear hq w'
                     go_wp2_with fail
                     refine (H6.out _).mono ?_
                     rintro e w' ⟨rfl, hq⟩
                     rw [hq]
                     clear hq w'
                     go_wp2_with fail
                     refine (H7.out _).mono ?_
                     rintro e w' ⟨rfl, hq⟩
                     rw [hq]
                     clear hq w'
                     go_wp2_with fail
                     refine (H8.out _).mono ?_
                     rintro e w' ⟨rfl, hq⟩
                     rw [hq]
                     clear hq w'
                     go_wp2_with fail
                     go_returns
                     exact Ret.mk (vb (by rw [HP.out]; rfl)) hv
end Go.Proofs.YtpiehlfffjhoaaaGreatDoor
