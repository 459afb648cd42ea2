-- Written by a program of this session out of Lean's print of the program (after the form of the kit's print.sh, with own turns); Lean checks it.
import Derived.Test.YtnelghpendfdmaaGreatDoorKSch
namespace Go.Proofs.YtnelghpendfdmaaGreatDoor.HFun
open Go.RowKit Go.Proofs.YtnelghpendfdmaaGreatDoorW.PrintWords Go.Proofs.YtnelghpendfdmaaGreatDoorW.PrintLast Go.Proofs.YtnelghpendfdmaaGreatDoorW.PrintMore
attribute [local go_sem] max2_int min2_int max_two min_two max_three min_three max_four min_four   -- for this text's walks alone
set_option linter.unusedVariables false
set_option linter.unusedSimpArgs false

/-! ### pendulumlaw12_cycles: function 18 -/
def ycj.l0 : Nat → List (S56) → List Int → Int → Option (List Int)
 | 0,_,_,_ => none
 | k + 1,x0,x3,x4 => if x4 < (x0.length : Int) then (if 0 ≤ x4 then (if ((zaw x0 x4).f0) = 6 then (if (x3.length : Int) > 0 then (if 0 ≤ (wrap64 ((x3.length : Int) - 1)) then (if (wrap64 ((x3.length : Int) - 1)) < (x3.length : Int) then (ycj.l0 k x0 (x3.set ((wrap64 ((x3.length : Int) - 1)) : Int).toNat (wrap64 ((rd x3 (wrap64 ((x3.length : Int) - 1))) + ((zaw x0 x4).f3)))) (wrap64 (x4 + 1))) else (none)) else (none)) else (if x3.length < 17592186044416 then (ycj.l0 k x0 (x3 ++ [(zaw x0 x4).f3]) (wrap64 (x4 + 1))) else (none))) else (if x3.length < 17592186044416 then (ycj.l0 k x0 (x3 ++ [(zaw x0 x4).f3]) (wrap64 (x4 + 1))) else (none))) else (none)) else (some x3)
def ycj.f (k : Nat) (l0 : List (S56)) : Option (List Int) :=ycj.l0 k l0 ([] : List Int) 0
theorem ycj.mono_l : ∀ k,(∀ y0 y1 y2,LeO (ycj.l0 k y0 y1 y2) (ycj.l0 (k + 1) y0 y1 y2))
 | 0 => fun _ _ _ r h => by simp [ycj.l0] at h
 | k + 1 => by
  have ih0 :=ycj.mono_l k
  ·intro y0 y1 y2
   unfold ycj.l0
   repeat' first
   | (with_reducible exact ih0 _ _ _)
   | (with_reducible exact LeO.refl _)
   | (with_reducible exact LeO.none _)
   | (with_reducible refine LeO.ite ?_ ?_)
   | (with_reducible refine LeO.bind ?_ (fun _ => ?_))
   | exact ih0 _ _ _
   | exact LeO.none _
   | refine LeO.ite ?_ ?_
   | refine LeO.bind ?_ (fun _ => ?_)
theorem ycj.mono : ∀ a0 k,LeO (ycj.f k a0) (ycj.f (k + 1) a0) :=by
 intro a0 k
 have ih0 :=ycj.mono_l k
 unfold ycj.f
 repeat' first
   | (with_reducible exact ih0 _ _ _)
   | (with_reducible exact LeO.refl _)
   | (with_reducible exact LeO.none _)
   | (with_reducible refine LeO.ite ?_ ?_)
   | (with_reducible refine LeO.bind ?_ (fun _ => ?_))
   | exact ih0 _ _ _
   | exact LeO.none _
   | refine LeO.ite ?_ ?_
   | refine LeO.bind ?_ (fun _ => ?_)
def ycj.T6 : Bool × List (List Nat × List Nat) :=(true,[([],[]),([],[]),([1],[1]),([2],[2]),([],[]),([],[]),([5],[5]),([6],[6]),([4,7],[4,7]),([8],[8]),([],[]),([],[]),([10,11],[10,11]),([12],[12]),([13],[13]),([9,14],[9,14]),([0,3,0,1,2,3,4,5,6,7,8,9,10,11,12,13,14,15],[0,3]),([16,15,0,1,2,3,4,5,6,7,8,9,10,11,12,13,14,15],[15,16])])
def ycj.B6 : List Nat :=[0,0,2,6,0,0,32,96,240,496,0,0,3072,7168,15360,32752,65535,131071]
theorem ycj.tab6 : rtab .any (opsOf Tryz.f18 6) = ycj.T6 :=by kernel_rfl
theorem ycj.bits6 : waitsOk ycj.T6.2 ycj.B6 = true :=by kernel_rfl
set_option maxHeartbeats 8000000 in
set_option maxRecDepth 100000 in
theorem ycj.calls (k : Nat) (A0 : Option Addr) (c0 : Nat) (l0 : List (S56)) (r : List Int) (w : World) (hr0 : Kd.C k56 w A0 l0.length l0) (hc0 : l0.length ≤ c0) (h : ycj.f k l0 = some r) :
  Calls Tryz.prog 18 #[.slice A0 l0.length c0] w fun e w' => ∃ v0_ : Value,e = .returned (v0_) ∧ Kd.R (Kd.int .i64) 3 w' w.heap.size (fun _ => True) v0_ r ∧ Below w.heap.size w w' :=by
 have HR0 :=Aside0.mk hr0
 have HC0 :=Aside0.mk hc0
 clear hr0 hc0
 have HB :=Aside0.mk (Below.refl w.heap.size w)
 have H : (ycj.l0 k l0 ([] : List Int) 0) = some r :=h
 clear h
 have H' :=Aside0.mk H
 clear H
 go_enter Tryz.func18,Tryz.ntmps18
 go_wp2
 go_loopg [3,4] k (fun kq v3 v4 w' => ∃ (x3_1 : List Int) (x4_1 : Int),v4 = .int .i64 x4_1 ∧ Aside0 (ycj.l0 kq l0 x3_1 x4_1 = some r) ∧ Aside0 (kq ≤ k) ∧ Aside0 (Kd.R (Kd.int .i64) 3 w' w.heap.size (fun _ => True) v3 x3_1) ∧ Aside0 (Below w.heap.size w w'))
 case atStart => exact ⟨(([] : List Int)),(0),(by rfl),H',⟨Nat.le_refl _⟩,⟨by exact Kd.R_nil _ _ _ _ _⟩,⟨by repeat ((with_reducible exact HB.out))⟩⟩
 case round =>
  clear H'
  try clear c1
  obtain ⟨x3_1,x4_1,rfl,HA,HK1,HO_3,HB⟩ :=hrel
  cases gk with
  | zero => exact absurd HA.out (by simp [ycj.l0])
  | succ k1 =>
   have H :=HA.out
   clear HA
   simp only [ycj.l0] at H
   by_cases c2 : x4_1 < (l0.length : Int)
   ·rw [if_pos c2] at H
    have c2b0 : decide (x4_1 < (l0.length : Int)) = true :=decide_eq_true c2
    clear c2
    by_cases c3 : 0 ≤ x4_1
    ·rw [if_pos c3] at H
     have c3b0 : decide (0 ≤ x4_1) = true :=decide_eq_true c3
     clear c3
     by_cases c4 : ((zaw l0 x4_1).f0) = 6
     ·obtain ⟨H,c4b0,c4b1⟩ :=ipos c4 H;clear c4
      by_cases c5 : (x3_1.length : Int) > 0
      ·rw [if_pos c5] at H
       have c5b0 : decide (0 < (x3_1.length : Int)) = true :=decide_eq_true c5
       have c5b1 : decide (0 < x3_1.length) = true :=decide_eq_true (by omega)
       clear c5
       obtain ⟨ji6,hji6⟩ : ∃ j_ : Int,(wrap64 ((x3_1.length : Int) - 1)) = j_ :=⟨_,rfl⟩
       replace H : (if 0 ≤ (ji6) then (if (ji6) < (x3_1.length : Int) then (ycj.l0 k1 l0 (x3_1.set ((ji6) : Int).toNat (wrap64 ((rd x3_1 (ji6)) + ((zaw l0 x4_1).f3)))) (wrap64 (x4_1 + 1))) else (none)) else (none)) = some r :=by (rw [hji6] at H;exact H)
       have hji6w : (IntKind.i64.wrap ((x3_1.length : Int) - 1)) = ji6 :=(i64_w _).trans hji6
       by_cases c7 : 0 ≤ (ji6)
       ·rw [if_pos c7] at H
        have c7b0 : decide (0 ≤ (ji6)) = true :=decide_eq_true c7
        clear c7
        by_cases c8 : (ji6) < (x3_1.length : Int)
        ·rw [if_pos c8] at H
         have c8b0 : decide ((ji6) < (x3_1.length : Int)) = true :=decide_eq_true c8
         clear c8
         obtain ⟨y254,hy254⟩ : ∃ y_ : List Int,y_ = (x3_1.set ((ji6) : Int).toNat (wrap64 ((rd x3_1 (ji6)) + ((zaw l0 x4_1).f3)))) :=⟨_,rfl⟩
         replace H : (ycj.l0 k1 l0 y254 (wrap64 (x4_1 + 1))) = some r :=by (rw [hy254];with_reducible exact H)
         have Ny254 :=Aside0.mk hy254
         clear hy254
         have H' :=Aside0.mk H
         clear H
         have p251 : 0 ≤ (x4_1 : Int) :=of_decide_eq_true (by (with_reducible assumption))
         have q251 : x4_1 < (l0.length : Int) :=of_decide_eq_true (by (with_reducible assumption))
         obtain ⟨ad251,e251,hx251_0,hx251_1,hx251_2,hx251_3⟩ :=at_T56 HR0.out x4_1 p251 q251
         cases e251
         replace hx251_0 :=(HB.out.cell (World.block_lt_of_cell? w _ hx251_0)).trans hx251_0
         replace hx251_1 :=(HB.out.cell (World.block_lt_of_cell? w _ hx251_1)).trans hx251_1
         replace hx251_2 :=(HB.out.cell (World.block_lt_of_cell? w _ hx251_2)).trans hx251_2
         replace hx251_3 :=(HB.out.cell (World.block_lt_of_cell? w _ hx251_3)).trans hx251_3
         replace p251 :=eq_true p251
         replace q251 :=eq_true q251
         obtain ⟨Ao10,co10,eo10⟩ :=Kd.R_slice HO_3.out
         subst eo10
         try go_wp2
         have n0_ :=Aside0.mk (Kd.R_drew HO_3.out)
         have n1_ :=Aside0.mk (below_drew1 HB.out)
         clear HO_3
         clear HB
         have HO_3 :=n0_
         have HB :=n1_
         clear n0_ n1_
         have p252 : 0 ≤ ((ji6) : Int) :=of_decide_eq_true (by (with_reducible assumption))
         have q252 : (ji6) < (x3_1.length : Int) :=of_decide_eq_true (by (with_reducible assumption))
         obtain ⟨ad252,e252,hx252_0⟩ :=Kd.at_int (Kd.R_reads' HO_3.out).2.2 (ji6) p252 q252
         cases e252
         replace p252 :=eq_true p252
         replace q252 :=eq_true q252
         have p253 : 0 ≤ (x4_1 : Int) :=of_decide_eq_true (by (with_reducible assumption))
         have q253 : x4_1 < (l0.length : Int) :=of_decide_eq_true (by (with_reducible assumption))
         obtain ⟨ad253,e253,hx253_0,hx253_1,hx253_2,hx253_3⟩ :=at_T56 HR0.out x4_1 p253 q253
         have hw253_3 :=hx253_3
         have hw253_2 :=hx253_2
         have hw253_1 :=hx253_1
         have hw253_0 :=hx253_0
         obtain rfl : ad251 = ad253 :=(by injection e253)
         replace hx253_0 :=(HB.out.cell (World.block_lt_of_cell? w _ hx253_0)).trans hx253_0
         replace hx253_1 :=(HB.out.cell (World.block_lt_of_cell? w _ hx253_1)).trans hx253_1
         replace hx253_2 :=(HB.out.cell (World.block_lt_of_cell? w _ hx253_2)).trans hx253_2
         replace hx253_3 :=(HB.out.cell (World.block_lt_of_cell? w _ hx253_3)).trans hx253_3
         replace p253 :=eq_true p253
         replace q253 :=eq_true q253
         have p9 : 0 ≤ ((ji6) : Int) :=of_decide_eq_true (by (with_reducible assumption))
         have q9 : ((ji6) : Int) < ((x3_1.length : Int) : Int) :=of_decide_eq_true (by (with_reducible assumption))
         obtain ⟨go9,co9,eo9,gb9,gl9,cl9,HG9⟩ :=Kd.R_form HO_3.out (by omega)
         (cases eo9)
         have GB9 :=Aside0.mk gb9
         have GG9 :=Aside0.mk HG9
         clear gb9 gl9 HG9
         (simp only [add_plain] at hx252_0)
         obtain ⟨hx9_0,hf9_0⟩ :=Kd.R_celln 0 HO_3.out ((ji6) : Int) p9 q9
         replace p9 :=eq_true p9
         replace q9 :=eq_true q9
         have HP12 :=Kd.R_putn HO_3.out ((ji6) : Int) (wrap64 ((rd x3_1 (ji6)) + ((zaw l0 x4_1).f3)))
         rw [← Ny254.out] at HP12
         have HQ12 :=Aside0.mk HP12
         clear HP12
         refine start_ (n :=18) (S :=fun w' => w'.cell? ⟨go9,((ji6)).toNat,none⟩ = some (.int .i64 (rd x3_1 (ji6))) ∧ w'.cell? (ad251.add ((x4_1).toNat * 4)) = some (.int .i64 ((zaw l0 x4_1).f0)) ∧ w'.cell? ⟨(ad251.add ((x4_1).toNat * 4)).block,(ad251.add ((x4_1).toNat * 4)).off + 1,none⟩ = some (.int .u16 ((zaw l0 x4_1).f1)) ∧ w'.cell? ⟨(ad251.add ((x4_1).toNat * 4)).block,(ad251.add ((x4_1).toNat * 4)).off + 2,none⟩ = some (.int .u8 ((zaw l0 x4_1).f2)) ∧ w'.cell? ⟨(ad251.add ((x4_1).toNat * 4)).block,(ad251.add ((x4_1).toNat * 4)).off + 3,none⟩ = some (.int .i64 ((zaw l0 x4_1).f3))) (ds :=[17]) #[false,false,false,false,false,false,false,false,false,false,false,false,false,false,false,false,false,false] (by kernel_rfl) rfl rfl ⟨hx252_0,((HB.out.cell (World.block_lt_of_cell? w _ hw253_0)).trans hw253_0),((HB.out.cell (World.block_lt_of_cell? w _ hw253_1)).trans hw253_1),((HB.out.cell (World.block_lt_of_cell? w _ hw253_2)).trans hw253_2),((HB.out.cell (World.block_lt_of_cell? w _ hw253_3)).trans hw253_3)⟩ (fun hHeld => ?_);refine with_tabW ycj.tab6 ycj.bits6 (fun HT_ HW_ => ?_)
         generalize wr.drew = w11 at HO_3 HB GG9 HQ12 hf9_0 hx252_0 hx253_0 hx253_1 hx253_2 hx253_3 hx9_0 hHeld ⊢
         refine pure_ (i :=0) (N :=some 22) (v :=?_) (a' :=?_) #[true,false,false,false,false,false,false,false,false,false,false,false,false,false,false,false,false,false] rfl rfl (any_of HT_.out (by kernel_rfl)) (fun _ _ _ h => h) (Or.inl ⟨by rfl,?_⟩) ?_ ?_
         rotate_left
         ·intro w'
          go_simp
          with_reducible rfl
         rotate_left
         ·simp only [Act.put,List.setIfInBounds_toArray,List.set_cons_zero,List.set_cons_succ,i64_w,i32_w]
          rfl
         refine pure_ (i :=1) (N :=some 23) (v :=?_) (a' :=?_) #[true,true,false,false,false,false,false,false,false,false,false,false,false,false,false,false,false,false] rfl rfl (any_of HT_.out (by kernel_rfl)) (fun _ _ _ h => h) (Or.inl ⟨by rfl,?_⟩) ?_ ?_
         rotate_left
         ·intro w'
          go_simp
          with_reducible rfl
         rotate_left
         ·simp only [Act.put,List.setIfInBounds_toArray,List.set_cons_zero,List.set_cons_succ,i64_w,i32_w]
          rfl
         refine pure_ (i :=2) (N :=some 24) (v :=?_) (a' :=?_) #[true,true,true,false,false,false,false,false,false,false,false,false,false,false,false,false,false,false] rfl rfl (any_of HT_.out (by kernel_rfl)) (fun _ _ _ h => h) (Or.inl ⟨by rfl,?_⟩) ?_ ?_
         rotate_left
         ·intro w'
          go_simp
          with_reducible rfl
         rotate_left
         ·simp only [Act.put,List.setIfInBounds_toArray,List.set_cons_zero,List.set_cons_succ,i64_w,i32_w]
          rfl
         refine pure_ (i :=3) (N :=some 25) (v :=?_) (a' :=?_) #[true,true,true,true,false,false,false,false,false,false,false,false,false,false,false,false,false,false] rfl rfl (any_of HT_.out (by kernel_rfl)) (fun _ _ _ h => h) (Or.inl ⟨by rfl,?_⟩) ?_ ?_
         rotate_left
         ·intro w'
          go_simp
          with_reducible rfl
         rotate_left
         ·simp only [Act.put,List.setIfInBounds_toArray,List.set_cons_zero,List.set_cons_succ,i64_w,i32_w]
          rfl
         refine pure_ (i :=4) (N :=some 26) (v :=?_) (a' :=?_) #[true,true,true,true,true,false,false,false,false,false,false,false,false,false,false,false,false,false] rfl rfl (any_of HT_.out (by kernel_rfl)) (fun _ _ _ h => h) (Or.inl ⟨by rfl,?_⟩) ?_ ?_
         rotate_left
         ·intro w'
          go_simp
          with_reducible rfl
         rotate_left
         ·simp only [Act.put,List.setIfInBounds_toArray,List.set_cons_zero,List.set_cons_succ,i64_w,i32_w]
          rfl
         refine pure_ (i :=5) (N :=some 27) (v :=?_) (a' :=?_) #[true,true,true,true,true,true,false,false,false,false,false,false,false,false,false,false,false,false] rfl rfl (any_of HT_.out (by kernel_rfl)) (fun _ _ _ h => h) (Or.inl ⟨by rfl,?_⟩) ?_ ?_
         rotate_left
         ·intro w'
          go_simp
          with_reducible rfl
         rotate_left
         ·simp only [Act.put,List.setIfInBounds_toArray,List.set_cons_zero,List.set_cons_succ,i64_w,i32_w]
          rfl
         refine pure_ (i :=6) (N :=some 28) (v :=?_) (a' :=?_) #[true,true,true,true,true,true,true,false,false,false,false,false,false,false,false,false,false,false] rfl rfl (any_of HT_.out (by kernel_rfl)) (fun _ _ _ h => h) (Or.inl ⟨by rfl,?_⟩) ?_ ?_
         rotate_left
         ·intro w'
          go_simp
          with_reducible rfl
         rotate_left
         ·simp only [Act.put,List.setIfInBounds_toArray,List.set_cons_zero,List.set_cons_succ,i64_w,i32_w]
          rfl
         refine pure_ (i :=7) (N :=some 29) (v :=?_) (a' :=?_) #[true,true,true,true,true,true,true,true,false,false,false,false,false,false,false,false,false,false] rfl rfl (any_of HT_.out (by kernel_rfl)) (fun _ _ _ h => h) (Or.inl ⟨by rfl,?_⟩) ?_ ?_
         rotate_left
         ·intro w'
          go_simp
          with_reducible rfl
         rotate_left
         ·simp only [Act.put,List.setIfInBounds_toArray,List.set_cons_zero,List.set_cons_succ,i64_w,i32_w]
          rfl
         refine pure_ (i :=8) (N :=some 30) (v :=?_) (a' :=?_) #[true,true,true,true,true,true,true,true,true,false,false,false,false,false,false,false,false,false] rfl rfl (any_of HT_.out (by kernel_rfl)) (fun _ _ _ h => h) (Or.inl ⟨by rfl,?_⟩) ?_ ?_
         rotate_left
         ·intro w'
          go_simp
          with_reducible rfl
         rotate_left
         ·simp only [Act.put,List.setIfInBounds_toArray,List.set_cons_zero,List.set_cons_succ,i64_w,i32_w]
          rfl
         refine pure_ (i :=10) (N :=some 32) (v :=?_) (a' :=?_) #[true,true,true,true,true,true,true,true,true,false,true,false,false,false,false,false,false,false] rfl rfl (any_of HT_.out (by kernel_rfl)) (fun _ _ _ h => h) (Or.inl ⟨by rfl,?_⟩) ?_ ?_
         rotate_left
         ·intro w'
          go_simp
          with_reducible rfl
         rotate_left
         ·simp only [Act.put,List.setIfInBounds_toArray,List.set_cons_zero,List.set_cons_succ,i64_w,i32_w]
          rfl
         refine pure_ (i :=11) (N :=some 33) (v :=?_) (a' :=?_) #[true,true,true,true,true,true,true,true,true,false,true,true,false,false,false,false,false,false] rfl rfl (any_of HT_.out (by kernel_rfl)) (fun _ _ _ h => h) (Or.inl ⟨by rfl,?_⟩) ?_ ?_
         rotate_left
         ·intro w'
          go_simp
          with_reducible rfl
         rotate_left
         ·simp only [Act.put,List.setIfInBounds_toArray,List.set_cons_zero,List.set_cons_succ,i64_w,i32_w]
          rfl
         refine pure_ (i :=12) (N :=some 34) (v :=?_) (a' :=?_) #[true,true,true,true,true,true,true,true,true,false,true,true,true,false,false,false,false,false] rfl rfl (any_of HT_.out (by kernel_rfl)) (fun _ _ _ h => h) (Or.inl ⟨by rfl,?_⟩) ?_ ?_
         rotate_left
         ·intro w'
          go_simp
          with_reducible rfl
         rotate_left
         ·simp only [Act.put,List.setIfInBounds_toArray,List.set_cons_zero,List.set_cons_succ,i64_w,i32_w]
          rfl
         refine pure_ (i :=13) (N :=some 35) (v :=?_) (a' :=?_) #[true,true,true,true,true,true,true,true,true,false,true,true,true,true,false,false,false,false] rfl rfl (any_of HT_.out (by kernel_rfl)) (fun _ _ _ h => h) (Or.inl ⟨by rfl,?_⟩) ?_ ?_
         rotate_left
         ·intro w'
          go_simp
          with_reducible rfl
         rotate_left
         ·simp only [Act.put,List.setIfInBounds_toArray,List.set_cons_zero,List.set_cons_succ,i64_w,i32_w]
          rfl
         refine take_ (i :=9) (N :=some 31) (v :=?_) (a' :=?_) #[true,true,true,true,true,true,true,true,true,true,true,true,true,true,false,false,false,false] rfl rfl (take_ofW HT_.out HW_.out (by kernel_rfl)) (fun _ _ _ h => h) (Or.inl ⟨by rfl,?_⟩) hHeld ?_ ?_
         rotate_left
         ·rintro w' ⟨s0,s1,s2,s3,s4⟩
          go_simp
          with_reducible rfl
         rotate_left
         ·simp only [Act.put,List.setIfInBounds_toArray,List.set_cons_zero,List.set_cons_succ,i64_w,i32_w]
          rfl
         refine take_ (i :=14) (N :=some 36) (v :=?_) (a' :=?_) #[true,true,true,true,true,true,true,true,true,true,true,true,true,true,true,false,false,false] rfl rfl (take_ofW HT_.out HW_.out (by kernel_rfl)) (fun _ _ _ h => h) (Or.inl ⟨by rfl,?_⟩) hHeld ?_ ?_
         rotate_left
         ·rintro w' ⟨s0,s1,s2,s3,s4⟩
          go_simp
          with_reducible rfl
         rotate_left
         ·simp only [Act.put,List.setIfInBounds_toArray,List.set_cons_zero,List.set_cons_succ,i64_w,i32_w]
          rfl
         refine pure_ (i :=15) (N :=some 37) (v :=?_) (a' :=?_) #[true,true,true,true,true,true,true,true,true,true,true,true,true,true,true,true,false,false] rfl rfl (any_of HT_.out (by kernel_rfl)) (fun _ _ _ h => h) (Or.inl ⟨by rfl,?_⟩) ?_ ?_
         rotate_left
         ·intro w'
          go_simp
          with_reducible rfl
         rotate_left
         ·simp only [Act.put,List.setIfInBounds_toArray,List.set_cons_zero,List.set_cons_succ,i64_w,i32_w]
          rfl
         refine pure_ (i :=16) (N :=some 38) (v :=?_) (a' :=?_) #[true,true,true,true,true,true,true,true,true,true,true,true,true,true,true,true,true,false] rfl rfl (any_of HT_.out (by kernel_rfl)) (fun _ _ _ h => h) (Or.inl ⟨by rfl,?_⟩) ?_ ?_
         rotate_left
         ·intro w'
          go_simp
          with_reducible rfl
         rotate_left
         ·simp only [Act.put,List.setIfInBounds_toArray,List.set_cons_zero,List.set_cons_succ,i64_w,i32_w]
          rfl
         refine last_ (i :=17) (N :=none) #[true,true,true,true,true,true,true,true,true,true,true,true,true,true,true,true,true,true] rfl rfl (one_of HT_.out (by kernel_rfl)) (by decide) (fun K hK => ?_)
         refine skip_ (w1 :=?_) (by rfl) rfl ?_ ?_
         rotate_left
         ·go_simp
          rfl
         refine hK.out _ _ ?_
         clear hK K
         refine done_ (done_of HT_.out (by kernel_rfl)) ?_
         try go_wp2
         go_roundg k1
         case measure => have :=HK1.out;omega
         case rel => exact ⟨(y254),(wrap64 (x4_1 + 1)),(by rfl),H',⟨by have :=HK1.out;omega⟩,⟨by (with_reducible repeat (fail));exact HQ12.out⟩,⟨by repeat ((with_reducible first | exact HB.out | refine below_set ?_ GB9.out))⟩⟩
        ·rw [if_neg c8] at H
         exact absurd H (by simp)
       ·rw [if_neg c7] at H
        exact absurd H (by simp)
      ·rw [if_neg c5] at H
       have c5b0 : decide (0 < (x3_1.length : Int)) = false :=decide_eq_false c5
       have c5b1 : decide (0 < x3_1.length) = false :=decide_eq_false (by omega)
       clear c5
       by_cases c13 : x3_1.length < 17592186044416
       ·rw [if_pos c13] at H
        have LMc13 :=Aside0.mk c13
        clear c13
        obtain ⟨y256,hy256⟩ : ∃ y_ : List Int,y_ = (x3_1 ++ [(zaw l0 x4_1).f3]) :=⟨_,rfl⟩
        replace H : (ycj.l0 k1 l0 y256 (wrap64 (x4_1 + 1))) = some r :=by (rw [hy256];with_reducible exact H)
        have Ny256 :=Aside0.mk hy256
        clear hy256
        have H' :=Aside0.mk H
        clear H
        have p251 : 0 ≤ (x4_1 : Int) :=of_decide_eq_true (by (with_reducible assumption))
        have q251 : x4_1 < (l0.length : Int) :=of_decide_eq_true (by (with_reducible assumption))
        obtain ⟨ad251,e251,hx251_0,hx251_1,hx251_2,hx251_3⟩ :=at_T56 HR0.out x4_1 p251 q251
        cases e251
        replace hx251_0 :=(HB.out.cell (World.block_lt_of_cell? w _ hx251_0)).trans hx251_0
        replace hx251_1 :=(HB.out.cell (World.block_lt_of_cell? w _ hx251_1)).trans hx251_1
        replace hx251_2 :=(HB.out.cell (World.block_lt_of_cell? w _ hx251_2)).trans hx251_2
        replace hx251_3 :=(HB.out.cell (World.block_lt_of_cell? w _ hx251_3)).trans hx251_3
        replace p251 :=eq_true p251
        replace q251 :=eq_true q251
        obtain ⟨Ao14,co14,eo14⟩ :=Kd.R_slice HO_3.out
        subst eo14
        have p255 : 0 ≤ (x4_1 : Int) :=of_decide_eq_true (by (with_reducible assumption))
        have q255 : x4_1 < (l0.length : Int) :=of_decide_eq_true (by (with_reducible assumption))
        obtain ⟨ad255,e255,hx255_0,hx255_1,hx255_2,hx255_3⟩ :=at_T56 HR0.out x4_1 p255 q255
        obtain rfl : ad251 = ad255 :=(by injection e255)
        replace hx255_0 :=(HB.out.cell (World.block_lt_of_cell? w _ hx255_0)).trans hx255_0
        replace hx255_1 :=(HB.out.cell (World.block_lt_of_cell? w _ hx255_1)).trans hx255_1
        replace hx255_2 :=(HB.out.cell (World.block_lt_of_cell? w _ hx255_2)).trans hx255_2
        replace hx255_3 :=(HB.out.cell (World.block_lt_of_cell? w _ hx255_3)).trans hx255_3
        replace p255 :=eq_true p255
        replace q255 :=eq_true q255
        go_wp2_with ((((with_reducible refine gate_builtin (b :=.append) (xs :=#[.tmp 39,.tmp 45]) rfl ?_);(try (refine gate_guard (by rfl) ?_;dsimp only));at_builtin;refine Kd.R_append (Kd.int .i64) (w0 :=w) w.heap.size rfl (.tmp 39) (.tmp 45) 41 3 (.int .i64 0) 8 rfl Tryz.underlying41 info3 rfl (by decide) (by omega) (.slice Ao14 x3_1.length co14) x3_1 ((zaw l0 x4_1).f3) [.int .i64 ((zaw l0 x4_1).f3)] (fun _ => True) (fun _ => False) rfl rfl ?aP (fun _ hk => hk.elim) ?aF ?aO ?aB ?aS ?aL ?_;(case aP => exact rfl);(case aB => exact (by repeat ((with_reducible exact HB.out))));(case aF => exact (fun _ _ => trivial));(case aO => exact (by (with_reducible repeat (fail));exact HO_3.out));(case aS => exact (below_size (by repeat ((with_reducible exact HB.out)))));(case aL => have :=LMc13.out;omega);intro v257 w15 ho hb hg hat;rw [← Ny256.out] at ho;have n0_ :=Aside0.mk (hb);have n1_ :=Aside0.mk (ho);clear HB;clear HO_3;have HB :=n0_;have HO258 :=n1_;clear n0_ n1_;clear ho hb hg hat)))
        go_roundg k1
        case measure => have :=HK1.out;omega
        case rel => exact ⟨(y256),(wrap64 (x4_1 + 1)),(by rfl),H',⟨by have :=HK1.out;omega⟩,⟨by (with_reducible repeat (fail));exact HO258.out⟩,⟨by repeat ((with_reducible exact HB.out))⟩⟩
       ·rw [if_neg c13] at H
        exact absurd H (by simp)
     ·obtain ⟨H,c4b0,c4b1⟩ :=ineg c4 H
      by_cases c16 : x3_1.length < 17592186044416
      ·rw [if_pos c16] at H
       have LMc16 :=Aside0.mk c16
       clear c16
       obtain ⟨y260,hy260⟩ : ∃ y_ : List Int,y_ = (x3_1 ++ [(zaw l0 x4_1).f3]) :=⟨_,rfl⟩
       replace H : (ycj.l0 k1 l0 y260 (wrap64 (x4_1 + 1))) = some r :=by (rw [hy260];with_reducible exact H)
       have Ny260 :=Aside0.mk hy260
       clear hy260
       have H' :=Aside0.mk H
       clear H
       have p251 : 0 ≤ (x4_1 : Int) :=of_decide_eq_true (by (with_reducible assumption))
       have q251 : x4_1 < (l0.length : Int) :=of_decide_eq_true (by (with_reducible assumption))
       obtain ⟨ad251,e251,hx251_0,hx251_1,hx251_2,hx251_3⟩ :=at_T56 HR0.out x4_1 p251 q251
       cases e251
       replace hx251_0 :=(HB.out.cell (World.block_lt_of_cell? w _ hx251_0)).trans hx251_0
       replace hx251_1 :=(HB.out.cell (World.block_lt_of_cell? w _ hx251_1)).trans hx251_1
       replace hx251_2 :=(HB.out.cell (World.block_lt_of_cell? w _ hx251_2)).trans hx251_2
       replace hx251_3 :=(HB.out.cell (World.block_lt_of_cell? w _ hx251_3)).trans hx251_3
       replace p251 :=eq_true p251
       replace q251 :=eq_true q251
       have p259 : 0 ≤ (x4_1 : Int) :=of_decide_eq_true (by (with_reducible assumption))
       have q259 : x4_1 < (l0.length : Int) :=of_decide_eq_true (by (with_reducible assumption))
       obtain ⟨ad259,e259,hx259_0,hx259_1,hx259_2,hx259_3⟩ :=at_T56 HR0.out x4_1 p259 q259
       obtain rfl : ad251 = ad259 :=(by injection e259)
       replace hx259_0 :=(HB.out.cell (World.block_lt_of_cell? w _ hx259_0)).trans hx259_0
       replace hx259_1 :=(HB.out.cell (World.block_lt_of_cell? w _ hx259_1)).trans hx259_1
       replace hx259_2 :=(HB.out.cell (World.block_lt_of_cell? w _ hx259_2)).trans hx259_2
       replace hx259_3 :=(HB.out.cell (World.block_lt_of_cell? w _ hx259_3)).trans hx259_3
       replace p259 :=eq_true p259
       replace q259 :=eq_true q259
       go_wp2_with ((((with_reducible refine gate_builtin (b :=.append) (xs :=#[.tmp 39,.tmp 45]) rfl ?_);(try (refine gate_guard (by rfl) ?_;dsimp only));at_builtin;refine Kd.R_append (Kd.int .i64) (w0 :=w) w.heap.size rfl (.tmp 39) (.tmp 45) 41 3 (.int .i64 0) 8 rfl Tryz.underlying41 info3 rfl (by decide) (by omega) u3 x3_1 ((zaw l0 x4_1).f3) [.int .i64 ((zaw l0 x4_1).f3)] (fun _ => True) (fun _ => False) rfl rfl ?aP (fun _ hk => hk.elim) ?aF ?aO ?aB ?aS ?aL ?_;(case aP => exact rfl);(case aB => exact (by repeat ((with_reducible exact HB.out))));(case aF => exact (fun _ _ => trivial));(case aO => exact (by (with_reducible repeat (fail));exact HO_3.out));(case aS => exact (below_size (by repeat ((with_reducible exact HB.out)))));(case aL => have :=LMc16.out;omega);intro v261 w17 ho hb hg hat;rw [← Ny260.out] at ho;have n0_ :=Aside0.mk (hb);have n1_ :=Aside0.mk (ho);clear HB;clear HO_3;have HB :=n0_;have HO262 :=n1_;clear n0_ n1_;clear ho hb hg hat)))
       go_roundg k1
       case measure => have :=HK1.out;omega
       case rel => exact ⟨(y260),(wrap64 (x4_1 + 1)),(by rfl),H',⟨by have :=HK1.out;omega⟩,⟨by (with_reducible repeat (fail));exact HO262.out⟩,⟨by repeat ((with_reducible exact HB.out))⟩⟩
      ·rw [if_neg c16] at H
       exact absurd H (by simp)
    ·rw [if_neg c3] at H
     exact absurd H (by simp)
   ·rw [if_neg c2] at H
    have c2b0 : decide (x4_1 < (l0.length : Int)) = false :=decide_eq_false c2
    clear c2
    obtain rfl :=Option.some.inj H
    go_wp2
    go_ret
    exact ⟨_,by rfl,by (with_reducible repeat (fail));exact HO_3.out,by repeat ((with_reducible exact HB.out))⟩

end Go.Proofs.YtnelghpendfdmaaGreatDoor.HFun
