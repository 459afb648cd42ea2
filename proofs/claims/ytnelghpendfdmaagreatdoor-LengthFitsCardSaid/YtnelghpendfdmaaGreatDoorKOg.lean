/-
  PROVED: the contract of pendulumref09.Of: an index ahead.
-/
import Derived.Test.YtnelghpendfdmaaGreatDoorKOf
namespace Go.Proofs.YtnelghpendfdmaaGreatDoor.KRow
set_option maxRecDepth 100000
set_option maxHeartbeats 16000000
open Go Go.RowKit Go.Proofs.YtnelghpendfdmaaGreatDoorW.PrintWords Go.Proofs.YtnelghpendfdmaaGreatDoorW.PrintLast Go.Proofs.YtnelghpendfdmaaGreatDoorW.PrintMore
open Go.Proofs.YtnelghpendfdmaaGreatDoor.HFun
set_option linter.unusedVariables false
set_option linter.unusedSimpArgs false
theorem of_E {W : World} {ad : Addr} {m cp : Nat} {p x o : Int} {r : Value} (hc0 : ∀ V,Below W.heap.size W V → V.cell? ad = some (.int .u8 p)) (hc1 : ∀ V,Below W.heap.size W V → V.cell? ⟨ad.block,ad.off + 1,none⟩ = some (.int .u8 o)) (hx : (p = 221 ∧ x = 1) ∨ (p = 253 ∧ x = 2)) (h237 : (o == 237) = false) (hp1 : yct.f o = some false) (hk : (if o = 203 then (1 : Int) else if o = 237 then 2 else 0) = 0) (ow : wrap64 o = o) (hm : 1 < m) (hcp : m ≤ cp) (hcase : (∃ L : Int,(True) ∧ (ych.f 20 0 x o = some L) ∧ (decide ((m : Int) < L) = true) ∧ r = ofR 0 0 0 0 0 0 5) ∨
    ((ych.f 20 0 x o = some 2) ∧ (yce.f 20 0 x o = some (false,0)) ∧ (decide ((m : Int) < 2) = false) ∧ ((cp = 2) = True) ∧ r = ofR 0 x o 0 0 2 0) ∨
    ((ych.f 20 0 x o = some 2) ∧ (yce.f 20 0 x o = some (false,0)) ∧ (decide ((m : Int) < 2) = false) ∧ ((cp = 2) = False) ∧ r = ofR 0 x o 0 0 2 0) ∨
    (∃ y : Int,(ych.f 20 0 x o = some 3) ∧ (yce.f 20 0 x o = some (false,1)) ∧ (decide ((m : Int) < 3) = false) ∧ (True) ∧ (∀ V,Below W.heap.size W V → V.cell? ⟨ad.block,ad.off + 2,none⟩ = some (.int .u8 y)) ∧ (wrap64 y = y) ∧ (ycp.f o = some false) ∧ ((cp = 2) = False) ∧ (cp ≠ 2) ∧ (0 < m - 2) ∧ (1 ≤ m - 2) ∧ r = ofR 0 x o 0 y 3 0) ∨
    (∃ y iv : Int,(ych.f 20 0 x o = some 3) ∧ (yce.f 20 0 x o = some (false,1)) ∧ (decide ((m : Int) < 3) = false) ∧ (True) ∧ (∀ V,Below W.heap.size W V → V.cell? ⟨ad.block,ad.off + 2,none⟩ = some (.int .u8 y)) ∧ (wrap64 y = y) ∧ (ycp.f o = some true) ∧ (ydb.f y = some iv) ∧ ((cp = 2) = False) ∧ (cp ≠ 2) ∧ (0 < m - 2) ∧ (1 ≤ m - 2) ∧ r = ofR 0 x o 0 iv 3 0) ∨
    (∃ y z : Int,(ych.f 20 0 x o = some 4) ∧ (yce.f 20 0 x o = some (false,2)) ∧ (decide ((m : Int) < 4) = false) ∧ (True) ∧ (∀ V,Below W.heap.size W V → V.cell? ⟨ad.block,ad.off + 2,none⟩ = some (.int .u8 y)) ∧ (∀ V,Below W.heap.size W V → V.cell? ⟨ad.block,ad.off + 3,none⟩ = some (.int .u8 z)) ∧ (wrap64 y = y) ∧ (wrap64 z = z) ∧ (wrap64 (256 * z) = 256 * z) ∧ (wrap64 (y + 256 * z) = y + 256 * z) ∧ (1 < m - 2) ∧ ((cp = 2) = False) ∧ (cp ≠ 2) ∧ (0 < m - 2) ∧ (1 ≤ m - 2) ∧ r = ofR 0 x o 0 (y + 256 * z) 4 0) ∨
    (∃ v dv : Int,(ych.f 20 0 x o = some 3) ∧ (yce.f 20 0 x o = some (true,0)) ∧ (decide ((m : Int) < 3) = false) ∧ (True) ∧ (∀ V,Below W.heap.size W V → V.cell? ⟨ad.block,ad.off + 2,none⟩ = some (.int .u8 v)) ∧ (ydb.f v = some dv) ∧ ((cp = 2) = False) ∧ (cp ≠ 2) ∧ (0 < m - 2) ∧ (1 ≤ m - 2) ∧ ((cp - 2 = 1) = True) ∧ r = ofR 0 x o dv 0 3 0) ∨
    (∃ v dv : Int,(ych.f 20 0 x o = some 3) ∧ (yce.f 20 0 x o = some (true,0)) ∧ (decide ((m : Int) < 3) = false) ∧ (True) ∧ (∀ V,Below W.heap.size W V → V.cell? ⟨ad.block,ad.off + 2,none⟩ = some (.int .u8 v)) ∧ (ydb.f v = some dv) ∧ ((cp = 2) = False) ∧ (cp ≠ 2) ∧ (0 < m - 2) ∧ (1 ≤ m - 2) ∧ ((cp - 2 = 1) = False) ∧ r = ofR 0 x o dv 0 3 0) ∨
    (∃ v dv y : Int,(ych.f 20 0 x o = some 4) ∧ (yce.f 20 0 x o = some (true,1)) ∧ (decide ((m : Int) < 4) = false) ∧ (True) ∧ (∀ V,Below W.heap.size W V → V.cell? ⟨ad.block,ad.off + 2,none⟩ = some (.int .u8 v)) ∧ (ydb.f v = some dv) ∧ (True) ∧ (∀ V,Below W.heap.size W V → V.cell? ⟨ad.block,ad.off + 3,none⟩ = some (.int .u8 y)) ∧ (wrap64 y = y) ∧ (ycp.f o = some false) ∧ ((cp = 2) = False) ∧ (cp ≠ 2) ∧ (0 < m - 2) ∧ (1 ≤ m - 2) ∧ ((cp - 2 = 1) = False) ∧ (0 < m - 2 - 1) ∧ r = ofR 0 x o dv y 4 0)) :
    Calls Tryz.prog 11 #[.slice (some ad) m cp] W fun e V => e = .returned r ∧ Below W.heap.size W V :=by
  have hE :=Aside0.mk (Env.nil W)
  replace hc0 :=Aside0.mk hc0
  replace hc1 :=Aside0.mk hc1
  replace hp1 :=Aside0.mk hp1
  replace hk :=Aside0.mk hk
  have em0 : ((m : Int) == 0) = false :=by simp;omega
  have g0 : 0 < m :=by omega
  have g1 : 1 < m :=by omega
  have fa : decide ((m : Int) ≤ 1) = false :=by exact decide_eq_false (by omega)
  have f2 : decide ((m : Int) < 2) = false :=by exact decide_eq_false (by omega)
  replace hm :=Aside0.mk hm
  replace hcp :=Aside0.mk hcp
  rcases hx with ⟨rfl,rfl⟩ | ⟨rfl,rfl⟩
  all_goals (
   go_enter Tryz.func11,Tryz.ntmps11
   go_upto_region 6 with (first | ((with_reducible refine gate_alloc 28 ?_);refine zab hE.out rfl (insC 0 0 0 0 0 0) 28 (by kernel_rfl) ?_;intro V g hE';replace hE :=Aside0.mk hE';clear hE') | ((with_reducible refine gate_load 5 ?_);(try refine gate_guard (by rfl) ?_);refine zam rfl _ rfl rfl (hc0.out _ hE.out.b) ?_) | (go_at_call 36;refine (yct.calls _ true _ (by decide)).mono ?_;rintro e V3 ⟨rfl,hd5⟩;replace hE :=Aside0.mk (hE.out.under (zai hd5));clear hd5))
   go_upto_region 17 with (first | ((with_reducible refine gate_load 5 ?_);(try refine gate_guard (by rfl) ?_);first | refine zam rfl _ rfl rfl (hc0.out _ hE.out.b) ?_ | refine zam rfl _ rfl rfl (hc1.out _ hE.out.b) ?_ | refine zam rfl _ rfl rfl (hc1.out _ hE.out.env.b) ?_) | ((with_reducible refine gate_mkMap 73 ?_);refine zbr hE.out rfl rfl ?_;intro V r0 hE';replace hE :=Aside0.mk hE';clear hE') | ((with_reducible refine gate_insMap 73 ?_);first | (refine zbw hE.out rfl _ _ _ rfl rfl rfl rfl ?_;intro V hE';replace hE :=Aside0.mk hE';clear hE') | (refine zbv hE.out rfl _ _ _ rfl rfl rfl rfl ?_;intro V hE';replace hE :=Aside0.mk hE';clear hE')) | ((with_reducible refine gate_store 3 ?_);refine zau hE.out rfl 0 rfl 3 _ _ rfl _ _ rfl rfl (by kernel_rfl) rfl rfl (by simp [insC]) ?_;intro V hE';(try dsimp only [List.set_cons_zero,List.set_cons_succ] at hE');replace hE :=Aside0.mk hE';clear hE') | ((with_reducible refine gate_lookMap 73 ?_);refine zbi hE.out rfl _ _ rfl (o) 0 rfl rfl hk.out ?_;replace hE :=Aside0.mk hE.out.env) | (go_at_call 36;refine (yct.calls o false _ hp1.out).mono ?_;rintro e V3 ⟨rfl,hd5⟩;replace hE :=Aside0.mk (hE.out.under (zai hd5));clear hd5))
   replace hE : Aside0 (Env W _ [(_,insC 0 _ 0 0 0 0),(_,insC 0 0 0 0 0 0)]) :=⟨hE.out⟩
   go_upto_region 23 with (fail)
   go_upto_region 24 with (first | ((with_reducible refine gate_region 23 ?_);((refine zak (fun V => Env W V []) [(0,0),(1,0),(2,0),(3,0),(6,0),(4,1),(5,0),(7,2)] [8,9] [8,9] 10 (by kernel_rfl) rfl rfl (by kernel_rfl) (by intro c a d v w h;cases d <;> exact h) ((hE.out.drewN 1).none) ?_);replace hE :=Aside0.mk (hE.out.drewN 1);have hS0 :=hE.out.none;(repeat (refine Sch.pureN (v :=?_) (a' :=?_) rfl rfl (by rfl) ?_ ?_ ?_;rotate_left 2;(· (intro w';go_simp <;> (repeat (rw [if_pos (by omega)])) <;> with_reducible rfl));(· (simp only [aput] <;> rfl))));(refine Sch.takeN (v :=?_) (a' :=?_) rfl rfl (by rfl) hS0 ?_ ?_ ?_;rotate_left 2;(· (intro w' hS';have qq :=hc1.out _ hS'.b;go_simp <;> with_reducible rfl));(· (simp only [aput] <;> rfl)));(repeat (refine Sch.pureN (v :=?_) (a' :=?_) rfl rfl (by rfl) ?_ ?_ ?_;rotate_left 2;(· (intro w';go_simp <;> (repeat (fail)) <;> with_reducible rfl));(· (simp only [aput] <;> rfl))));(refine Sch.st1 hE.out 0 rfl rfl rfl (by rfl) 3 _ _ rfl _ _ rfl rfl (by kernel_rfl) rfl rfl (by simp [insC]) ?_;intro V hE';replace hE :=Aside0.mk hE';clear hE';refine ⟨hE.out.none,?_⟩);(refine Sch.tail 8 2 rfl rfl ?_;simp only [List.drop_succ_cons,List.drop_zero,List.drop_nil]))) | ((with_reducible refine gate_store 3 ?_);refine zau hE.out rfl 0 rfl 3 _ _ rfl _ _ rfl rfl (by kernel_rfl) rfl rfl (by simp [insC]) ?_;intro V hE';(try dsimp only [List.set_cons_zero,List.set_cons_succ] at hE');replace hE :=Aside0.mk hE';clear hE'))
   replace hE : Aside0 (Env W _ [(_,insC 0 _ (wrap64 o) 0 0 0),(_,insC 0 0 0 0 0 0)]) :=⟨hE.out⟩
   rw [ow] at hE
   rcases hcase with ⟨L,sh,hL,hs,rfl⟩ | ⟨hL,hN,fL,cq,rfl⟩ | ⟨hL,hN,fL,cq,rfl⟩ | ⟨y,hL,hN,fL,one,hc2,yw,hR,cq,nq,k0,k1,rfl⟩ | ⟨y,iv,hL,hN,fL,one,hc2,yw,hR,hI,cq,nq,k0,k1,rfl⟩ | ⟨y,z,hL,hN,fL,dbl,hc2,hc3,yw,zw,zm,za,k2,cq,nq,k0,k1,rfl⟩ | ⟨v,dv,hL,hN,fL,dd,hc2,hD,cq,nq,k0,k1,cq,rfl⟩ | ⟨v,dv,hL,hN,fL,dd,hc2,hD,cq,nq,k0,k1,cq,rfl⟩ | ⟨v,dv,y,hL,hN,fL,dd,hc2,hD,one,hc3,yw,hR,cq,nq,k0,k1,cq2,k3,rfl⟩
   all_goals (
    (try replace hL :=Aside0.mk hL)
    (try replace hN :=Aside0.mk hN)
    (try replace hD :=Aside0.mk hD)
    (try replace hR :=Aside0.mk hR)
    (try replace hI :=Aside0.mk hI)
    (try replace hc2 :=Aside0.mk hc2)
    (try replace hc3 :=Aside0.mk hc3)
    go_upto_region 25 with (first | ((with_reducible refine gate_load 3 ?_);(try refine gate_guard (by rfl) ?_);(refine zag hE.out rfl 0 rfl _ rfl _ _ rfl rfl ?_)) | ((with_reducible refine gate_store 3 ?_);refine zau hE.out rfl 0 rfl 3 _ _ rfl _ _ rfl rfl (by kernel_rfl) rfl rfl (by simp [insC]) ?_;intro V hE';(try dsimp only [List.set_cons_zero,List.set_cons_succ] at hE');replace hE :=Aside0.mk hE';clear hE') | (go_at_call 38;refine (ych.calls 20 _ _ o _ _ hL.out).mono ?_;rintro e V3 ⟨rfl,hd5⟩;replace hE :=Aside0.mk (hE.out.under (zai hd5));clear hd5))
    replace hE : Aside0 (Env W _ [(_,insC 0 _ o 0 0 _),(_,insC 0 0 0 0 0 0)]) :=⟨hE.out⟩
    first
     | (have h9 :=sh
        go_wp2_with (first | ((with_reducible refine gate_load 3 ?_);(try refine gate_guard (by rfl) ?_);(refine zag hE.out rfl 0 rfl _ rfl _ _ rfl rfl ?_)) | ((with_reducible refine gate_bld 28 ?_);(try refine gate_guard (by rfl) ?_);refine zao rfl rfl (.agg (insC 0 0 0 0 0 0)) (by kernel_rfl) ?_) | ((with_reducible refine gate_store 28 ?_);refine zac hE.out rfl 1 rfl 28 _ _ rfl _ rfl rfl rfl (by kernel_rfl) (zbc _ _ _ _ _ _) ?_;intro V hE';(try dsimp only [List.set_cons_zero,List.set_cons_succ] at hE');replace hE :=Aside0.mk hE';clear hE'))
        have r1 :=run_loadVar_mid (P :=Tryz.prog) _ _ 0 28 (insC 0 0 0 0 0 0).toList _ (hE.out.at_ 1 _ _ rfl).2.range Tryz.underlying28 rfl zca
        refine bodyPost_ret (v :=.tuple #[.agg (insC 0 0 0 0 0 0),.int .i64 5]) ?_ rfl ⟨rfl,hE.out.b⟩
        simp [results,Tryz.results11,asAddr,r1,Act.put])
     | (go_upto_region 29 with (first | ((with_reducible refine gate_load 3 ?_);(try refine gate_guard (by rfl) ?_);(refine zag hE.out rfl 0 rfl _ rfl _ _ rfl rfl ?_)) | (go_at_call 39;refine (yce.calls 20 _ _ o _ _ _ hN.out).mono ?_;rintro e V3 ⟨rfl,hd5⟩;replace hE :=Aside0.mk (hE.out.under (zai hd5));clear hd5))
        first
         | (have h9 :=dd
            go_upto_region 31 with (first | ((with_reducible refine gate_region 30 ?_);((refine zak (fun V => Env W V []) [(0,0),(1,0),(4,0),(5,0),(2,1),(3,2)] [6,7,8] [6,7,8] 9 (by kernel_rfl) rfl rfl (by kernel_rfl) (by intro c a d v w h;cases d <;> exact h) ((hE.out.drewN 1).none) ?_);replace hE :=Aside0.mk (hE.out.drewN 1);have hS0 :=hE.out.none;(repeat (refine Sch.pureN (v :=?_) (a' :=?_) rfl rfl (by rfl) ?_ ?_ ?_;rotate_left 2;(· (intro w';go_simp <;> (repeat (rw [if_pos (by omega)])) <;> with_reducible rfl));(· (simp only [aput] <;> rfl))));(refine Sch.takeN (v :=?_) (a' :=?_) rfl rfl (by rfl) hS0 ?_ ?_ ?_;rotate_left 2;(· (intro w' hS';have qq :=hc2.out _ hS'.b;go_simp <;> with_reducible rfl));(· (simp only [aput] <;> rfl)));(refine Sch.call (N :=some 123) rfl rfl Tryz.func37 (by kernel_rfl) rfl ?_ (by rfl) rfl ?_ ?_;rotate_left;(· (go_simp <;> with_reducible rfl));refine (ydb.calls v dv _ hD.out).mono ?_;rintro e V3 ⟨rfl,hd5⟩;replace hE :=Aside0.mk (hE.out.under (zai hd5));replace hS0 :=hS0.under (zai hd5);clear hd5;refine ⟨hS0,?_⟩;refine Sch.norm (a' :=?_) ?_ ?_;rotate_left;(· (simp only [aput] <;> rfl)));(refine Sch.tail 6 3 rfl rfl ?_;simp only [List.drop_succ_cons,List.drop_zero,List.drop_nil]))) | ((with_reducible refine gate_store 3 ?_);refine zau hE.out rfl 0 rfl 3 _ _ rfl _ _ rfl rfl (by kernel_rfl) rfl rfl (by simp [insC]) ?_;intro V hE';(try dsimp only [List.set_cons_zero,List.set_cons_succ] at hE');replace hE :=Aside0.mk hE';clear hE'))
            replace hE : Aside0 (Env W _ [(_,insC 0 _ o dv 0 _),(_,insC 0 0 0 0 0 0)]) :=⟨hE.out⟩)
         | go_upto_region 31 with fail
        first
         | (have h9 :=one
            go_upto_region 33 with (first | ((with_reducible refine gate_load 5 ?_);(try refine gate_guard (by rfl) ?_);first | refine zam rfl _ rfl rfl (hc2.out _ hE.out.b) ?_ | refine zam rfl _ rfl rfl (hc3.out _ hE.out.b) ?_) | ((with_reducible refine gate_store 3 ?_);refine zau hE.out rfl 0 rfl 3 _ _ rfl _ _ rfl rfl (by kernel_rfl) rfl rfl (by simp [insC]) ?_;intro V hE';(try dsimp only [List.set_cons_zero,List.set_cons_succ] at hE');replace hE :=Aside0.mk hE';clear hE'))
            replace hE : Aside0 (Env W _ [(_,insC 0 _ o _ (wrap64 y) _),(_,insC 0 0 0 0 0 0)]) :=⟨hE.out⟩
            rw [yw] at hE
            go_upto_region 35 with (first | ((with_reducible refine gate_load 3 ?_);(try refine gate_guard (by rfl) ?_);(refine zag hE.out rfl 0 rfl _ rfl _ _ rfl rfl ?_)) | ((with_reducible refine gate_load 5 ?_);(try refine gate_guard (by rfl) ?_);refine zam rfl _ rfl rfl (hc2.out _ hE.out.b) ?_) | ((with_reducible refine gate_store 3 ?_);refine zau hE.out rfl 0 rfl 3 _ _ rfl _ _ rfl rfl (by kernel_rfl) rfl rfl (by simp [insC]) ?_;intro V hE';(try dsimp only [List.set_cons_zero,List.set_cons_succ] at hE');replace hE :=Aside0.mk hE';clear hE') | (go_at_call 40;(try refine gate_guard (by rfl) ?_);refine (ycp.calls o _ _ hR.out).mono ?_;rintro e V3 ⟨rfl,hd5⟩;replace hE :=Aside0.mk (hE.out.under (zai hd5));clear hd5) | (go_at_call 37;refine (ydb.calls y iv _ hI.out).mono ?_;rintro e V3 ⟨rfl,hd5⟩;replace hE :=Aside0.mk (hE.out.under (zai hd5));clear hd5))
            (try replace hE : Aside0 (Env W _ [(_,insC 0 _ o _ iv _),(_,insC 0 0 0 0 0 0)]) :=⟨hE.out⟩))
         | go_upto_region 35 with fail
        first
         | (have h9 :=dbl
            go_upto_region 37 with (first | ((with_reducible refine gate_region 36 ?_);((refine zak (fun V => Env W V []) [(0,0),(1,0),(4,0),(5,0),(2,1),(3,0),(6,1),(7,0),(8,0)] [9,10,11] [9,10,11] 12 (by kernel_rfl) rfl rfl (by kernel_rfl) (by intro c a d v w h;cases d <;> exact h) ((hE.out.drewN 1).none) ?_);replace hE :=Aside0.mk (hE.out.drewN 1);have hS0 :=hE.out.none;(repeat (refine Sch.pureN (v :=?_) (a' :=?_) rfl rfl (by rfl) ?_ ?_ ?_;rotate_left 2;(· (intro w';go_simp <;> (repeat (rw [if_pos (by omega)])) <;> with_reducible rfl));(· (simp only [aput] <;> rfl))));(refine Sch.takeN (v :=?_) (a' :=?_) rfl rfl (by rfl) hS0 ?_ ?_ ?_;rotate_left 2;(· (intro w' hS';have qq :=hc2.out _ hS'.b;go_simp <;> with_reducible rfl));(· (simp only [aput] <;> rfl)));(repeat (refine Sch.pureN (v :=?_) (a' :=?_) rfl rfl (by rfl) ?_ ?_ ?_;rotate_left 2;(· (intro w';go_simp <;> (repeat (fail)) <;> with_reducible rfl));(· (simp only [aput] <;> rfl))));(refine Sch.takeN (v :=?_) (a' :=?_) rfl rfl (by rfl) hS0 ?_ ?_ ?_;rotate_left 2;(· (intro w' hS';have qq :=hc3.out _ hS'.b;go_simp <;> with_reducible rfl));(· (simp only [aput] <;> rfl)));(repeat (refine Sch.pureN (v :=?_) (a' :=?_) rfl rfl (by rfl) ?_ ?_ ?_;rotate_left 2;(· (intro w';go_simp <;> (repeat (fail)) <;> with_reducible rfl));(· (simp only [aput] <;> rfl))));(refine Sch.tail 9 3 rfl rfl ?_;simp only [List.drop_succ_cons,List.drop_zero,List.drop_nil]))) | ((with_reducible refine gate_store 3 ?_);refine zau hE.out rfl 0 rfl 3 _ _ rfl _ _ rfl rfl (by kernel_rfl) rfl rfl (by simp [insC]) ?_;intro V hE';(try dsimp only [List.set_cons_zero,List.set_cons_succ] at hE');replace hE :=Aside0.mk hE';clear hE'))
            replace hE : Aside0 (Env W _ [(_,insC 0 _ o _ (wrap64 (y + 256 * z)) _),(_,insC 0 0 0 0 0 0)]) :=⟨hE.out⟩
            rw [za] at hE)
         | go_upto_region 37 with fail
        go_wp2_with (first | ((with_reducible refine gate_load 28 ?_);refine zaf hE.out rfl 0 rfl 28 _ rfl rfl (ld28 _ _ _ _ _ _ _) ?_) | ((with_reducible refine gate_store 28 ?_);refine zac hE.out rfl 1 rfl 28 _ _ rfl _ rfl rfl rfl (by kernel_rfl) (zbc _ _ _ _ _ _) ?_;intro V hE';(try dsimp only [List.set_cons_zero,List.set_cons_succ] at hE');replace hE :=Aside0.mk hE';clear hE'))
        have r1 :=run_loadVar_mid (P :=Tryz.prog) _ _ 0 28 (insC 0 _ o _ _ _).toList _ (hE.out.at_ 1 _ _ rfl).2.range Tryz.underlying28 rfl zca
        refine bodyPost_ret (v :=.tuple #[.agg (insC 0 _ o _ _ _),.int .i64 0]) ?_ rfl ⟨rfl,hE.out.b⟩
        simp [results,Tryz.results11,asAddr,r1,Act.put])))
theorem of_e_one {W : World} {ad : Addr} {m cp : Nat} {p x : Int} (hc0 : ∀ V,Below W.heap.size W V → V.cell? ad = some (.int .u8 (p))) (hx : (p = 221 ∧ x = 1) ∨ (p = 253 ∧ x = 2)) (hm : m = 1) (hcp : m ≤ cp) :
    Calls Tryz.prog 11 #[.slice (some ad) m cp] W fun e V => e = .returned (.tuple #[.agg (insC 0 0 0 0 0 0),.int .i64 5]) ∧ Below W.heap.size W V :=by
  have hE :=Aside0.mk (Env.nil W)
  replace hc0 :=Aside0.mk hc0
  replace hm :=Aside0.mk hm
  replace hcp :=Aside0.mk hcp
  rcases hx with ⟨rfl,rfl⟩ | ⟨rfl,rfl⟩
  all_goals (
    go_enter Tryz.func11,Tryz.ntmps11
    have em0 : ((m : Int) == 0) = false :=by have :=hm.out;have :=hcp.out;simp;omega
    have g0 : 0 < m :=by have :=hm.out;have :=hcp.out;omega
    have f2 : decide ((m : Int) < 2) = true :=by have :=hm.out;have :=hcp.out;exact decide_eq_true (by omega)
    have fa : decide ((m : Int) ≤ 1) = true :=by have :=hm.out;have :=hcp.out;exact decide_eq_true (by omega)
    go_wp2_with (first | ((with_reducible refine gate_alloc 28 ?_);refine zab hE.out rfl (insC 0 0 0 0 0 0) 28 (by kernel_rfl) ?_;intro V g hE';replace hE :=Aside0.mk hE';clear hE') | ((with_reducible refine gate_load 5 ?_);(try refine gate_guard (by rfl) ?_);refine zam rfl _ rfl rfl (hc0.out _ hE.out.b) ?_) | (go_at_call 36;refine (yct.calls _ true _ (by decide)).mono ?_;rintro e V3 ⟨rfl,hd5⟩;replace hE :=Aside0.mk (hE.out.under (zai hd5));clear hd5) | ((with_reducible refine gate_bld 28 ?_);(try refine gate_guard (by rfl) ?_);refine zao rfl rfl (.agg (insC 0 0 0 0 0 0)) (by kernel_rfl) ?_) | ((with_reducible refine gate_store 28 ?_);refine zac hE.out rfl 1 rfl 28 _ _ rfl _ rfl rfl rfl (by kernel_rfl) (zbc _ _ _ _ _ _) ?_;intro V hE';(try dsimp only [List.set_cons_zero,List.set_cons_succ] at hE');replace hE :=Aside0.mk hE';clear hE'))
    have r1 :=run_loadVar_mid (P :=Tryz.prog) _ _ 0 28 (insC 0 0 0 0 0 0).toList _ (hE.out.at_ 1 _ _ rfl).2.range Tryz.underlying28 rfl zca
    refine bodyPost_ret (v :=.tuple #[.agg (insC 0 0 0 0 0 0),.int .i64 5]) ?_ rfl ⟨rfl,hE.out.b⟩
    simp [results,Tryz.results11,asAddr,r1,Act.put])
theorem of_e_l237 {W : World} {ad : Addr} {m cp : Nat} {p x : Int} (hc0 : ∀ V,Below W.heap.size W V → V.cell? ad = some (.int .u8 (p))) (hc1 : ∀ V,Below W.heap.size W V → V.cell? ⟨ad.block,ad.off + 1,none⟩ = some (.int .u8 (237))) (hx : (p = 221 ∧ x = 1) ∨ (p = 253 ∧ x = 2)) (hm : 2 ≤ m) (hcp : m ≤ cp) :
    Calls Tryz.prog 11 #[.slice (some ad) m cp] W fun e V => e = .returned (.tuple #[.agg (insC 0 0 p 0 0 1),.int .i64 0]) ∧ Below W.heap.size W V :=by
  have hE :=Aside0.mk (Env.nil W)
  replace hc0 :=Aside0.mk hc0
  replace hc1 :=Aside0.mk hc1
  replace hm :=Aside0.mk hm
  replace hcp :=Aside0.mk hcp
  rcases hx with ⟨rfl,rfl⟩ | ⟨rfl,rfl⟩
  all_goals (
    go_enter Tryz.func11,Tryz.ntmps11
    have em0 : ((m : Int) == 0) = false :=by have :=hm.out;have :=hcp.out;simp;omega
    have g0 : 0 < m :=by have :=hm.out;have :=hcp.out;omega
    have g1 : 1 < m :=by have :=hm.out;have :=hcp.out;omega
    have f2 : decide ((m : Int) < 2) = false :=by have :=hm.out;have :=hcp.out;exact decide_eq_false (by omega)
    go_upto_region 6 with (first | ((with_reducible refine gate_alloc 28 ?_);refine zab hE.out rfl (insC 0 0 0 0 0 0) 28 (by kernel_rfl) ?_;intro V g hE';replace hE :=Aside0.mk hE';clear hE') | ((with_reducible refine gate_load 5 ?_);(try refine gate_guard (by rfl) ?_);refine zam rfl _ rfl rfl (hc0.out _ hE.out.b) ?_) | (go_at_call 36;refine (yct.calls _ true _ (by decide)).mono ?_;rintro e V3 ⟨rfl,hd5⟩;replace hE :=Aside0.mk (hE.out.under (zai hd5));clear hd5))
    go_wp2_with (first | ((with_reducible refine gate_load 5 ?_);(try refine gate_guard (by rfl) ?_);first | refine zam rfl _ rfl rfl (hc0.out _ hE.out.b) ?_ | refine zam rfl _ rfl rfl (hc1.out _ hE.out.b) ?_) | ((with_reducible refine gate_store 28 ?_);refine zac hE.out rfl 1 rfl 28 _ _ rfl _ rfl rfl rfl (by kernel_rfl) (zbc _ _ _ _ _ _) ?_;intro V hE';(try dsimp only [List.set_cons_zero,List.set_cons_succ] at hE');replace hE :=Aside0.mk hE';clear hE'))
    have r1 :=run_loadVar_mid (P :=Tryz.prog) _ _ 0 28 (insC 0 0 _ 0 0 1).toList _ (hE.out.at_ 1 _ _ rfl).2.range Tryz.underlying28 rfl zca
    refine bodyPost_ret (v :=.tuple #[.agg (insC 0 0 _ 0 0 1),.int .i64 0]) ?_ rfl ⟨rfl,hE.out.b⟩
    simp [results,Tryz.results11,asAddr,r1,Act.put])
theorem of_e_l {W : World} {ad : Addr} {m cp : Nat} {p x o : Int} (hc0 : ∀ V,Below W.heap.size W V → V.cell? ad = some (.int .u8 (p))) (hc1 : ∀ V,Below W.heap.size W V → V.cell? ⟨ad.block,ad.off + 1,none⟩ = some (.int .u8 (o))) (hx : (p = 221 ∧ x = 1) ∨ (p = 253 ∧ x = 2)) (hm : 2 ≤ m) (hcp : m ≤ cp) (ow : wrap64 o = o) (h237 : (o == 237) = false) (hp1 : yct.f o = some true) :
    Calls Tryz.prog 11 #[.slice (some ad) m cp] W fun e V => e = .returned (.tuple #[.agg (insC 0 0 p 0 0 1),.int .i64 0]) ∧ Below W.heap.size W V :=by
  have hE :=Aside0.mk (Env.nil W)
  replace hc0 :=Aside0.mk hc0
  replace hc1 :=Aside0.mk hc1
  replace hm :=Aside0.mk hm
  replace hcp :=Aside0.mk hcp
  replace hp1 :=Aside0.mk hp1
  rcases hx with ⟨rfl,rfl⟩ | ⟨rfl,rfl⟩
  all_goals (
    go_enter Tryz.func11,Tryz.ntmps11
    have em0 : ((m : Int) == 0) = false :=by have :=hm.out;have :=hcp.out;simp;omega
    have g0 : 0 < m :=by have :=hm.out;have :=hcp.out;omega
    have g1 : 1 < m :=by have :=hm.out;have :=hcp.out;omega
    have f2 : decide ((m : Int) < 2) = false :=by have :=hm.out;have :=hcp.out;exact decide_eq_false (by omega)
    go_upto_region 6 with (first | ((with_reducible refine gate_alloc 28 ?_);refine zab hE.out rfl (insC 0 0 0 0 0 0) 28 (by kernel_rfl) ?_;intro V g hE';replace hE :=Aside0.mk hE';clear hE') | ((with_reducible refine gate_load 5 ?_);(try refine gate_guard (by rfl) ?_);refine zam rfl _ rfl rfl (hc0.out _ hE.out.b) ?_) | (go_at_call 36;refine (yct.calls _ true _ (by decide)).mono ?_;rintro e V3 ⟨rfl,hd5⟩;replace hE :=Aside0.mk (hE.out.under (zai hd5));clear hd5))
    go_wp2_with (first | ((with_reducible refine gate_load 5 ?_);(try refine gate_guard (by rfl) ?_);first | refine zam rfl _ rfl rfl (hc0.out _ hE.out.b) ?_ | refine zam rfl _ rfl rfl (hc1.out _ hE.out.b) ?_) | (go_at_call 36;refine (yct.calls o true _ hp1.out).mono ?_;rintro e V3 ⟨rfl,hd5⟩;replace hE :=Aside0.mk (hE.out.under (zai hd5));clear hd5) | ((with_reducible refine gate_store 28 ?_);refine zac hE.out rfl 1 rfl 28 _ _ rfl _ rfl rfl rfl (by kernel_rfl) (zbc _ _ _ _ _ _) ?_;intro V hE';(try dsimp only [List.set_cons_zero,List.set_cons_succ] at hE');replace hE :=Aside0.mk hE';clear hE'))
    have r1 :=run_loadVar_mid (P :=Tryz.prog) _ _ 0 28 (insC 0 0 _ 0 0 1).toList _ (hE.out.at_ 1 _ _ rfl).2.range Tryz.underlying28 rfl zca
    refine bodyPost_ret (v :=.tuple #[.agg (insC 0 0 _ 0 0 1),.int .i64 0]) ?_ rfl ⟨rfl,hE.out.b⟩
    simp [results,Tryz.results11,asAddr,r1,Act.put])
theorem of_e_both {W : World} {ad : Addr} {m cp : Nat} {p x v o dv : Int} (hc0 : ∀ V,Below W.heap.size W V → V.cell? ad = some (.int .u8 (p))) (hc1 : ∀ V,Below W.heap.size W V → V.cell? ⟨ad.block,ad.off + 1,none⟩ = some (.int .u8 (203))) (hc2 : ∀ V,Below W.heap.size W V → V.cell? ⟨ad.block,ad.off + 2,none⟩ = some (.int .u8 (v))) (hc3 : ∀ V,Below W.heap.size W V → V.cell? ⟨ad.block,ad.off + 3,none⟩ = some (.int .u8 (o))) (hx : (p = 221 ∧ x = 1) ∨ (p = 253 ∧ x = 2)) (hm : 4 ≤ m) (hcp : m ≤ cp) (ow : wrap64 o = o) (hD : ydb.f v = some dv) :
    Calls Tryz.prog 11 #[.slice (some ad) m cp] W fun e V => e = .returned (.tuple #[.agg (insC 3 x o dv 0 4),.int .i64 0]) ∧ Below W.heap.size W V :=by
  have hE :=Aside0.mk (Env.nil W)
  replace hc0 :=Aside0.mk hc0
  replace hc1 :=Aside0.mk hc1
  replace hc2 :=Aside0.mk hc2
  replace hc3 :=Aside0.mk hc3
  replace hm :=Aside0.mk hm
  replace hcp :=Aside0.mk hcp
  replace hD :=Aside0.mk hD
  rcases hx with ⟨rfl,rfl⟩ | ⟨rfl,rfl⟩
  all_goals (
    go_enter Tryz.func11,Tryz.ntmps11
    have em0 : ((m : Int) == 0) = false :=by have :=hm.out;have :=hcp.out;simp;omega
    have g0 : 0 < m :=by have :=hm.out;have :=hcp.out;omega
    have g1 : 1 < m :=by have :=hm.out;have :=hcp.out;omega
    have g2 : 2 < m :=by have :=hm.out;have :=hcp.out;omega
    have g3 : 3 < m :=by have :=hm.out;have :=hcp.out;omega
    have f2 : decide ((m : Int) < 2) = false :=by have :=hm.out;have :=hcp.out;exact decide_eq_false (by omega)
    have f4 : decide ((m : Int) < 4) = false :=by have :=hm.out;have :=hcp.out;exact decide_eq_false (by omega)
    go_upto_region 6 with (first | ((with_reducible refine gate_alloc 28 ?_);refine zab hE.out rfl (insC 0 0 0 0 0 0) 28 (by kernel_rfl) ?_;intro V g hE';replace hE :=Aside0.mk hE';clear hE') | ((with_reducible refine gate_load 5 ?_);(try refine gate_guard (by rfl) ?_);refine zam rfl _ rfl rfl (hc0.out _ hE.out.b) ?_) | (go_at_call 36;refine (yct.calls _ true _ (by decide)).mono ?_;rintro e V3 ⟨rfl,hd5⟩;replace hE :=Aside0.mk (hE.out.under (zai hd5));clear hd5))
    go_upto_region 17 with (first | ((with_reducible refine gate_mkMap 73 ?_);refine zbr hE.out rfl rfl ?_;intro V r0 hE';replace hE :=Aside0.mk hE';clear hE') | ((with_reducible refine gate_insMap 73 ?_);first | (refine zbw hE.out rfl _ _ _ rfl rfl rfl rfl ?_;intro V hE';replace hE :=Aside0.mk hE';clear hE') | (refine zbv hE.out rfl _ _ _ rfl rfl rfl rfl ?_;intro V hE';replace hE :=Aside0.mk hE';clear hE')) | ((with_reducible refine gate_store 3 ?_);refine zau hE.out rfl 0 rfl 3 _ _ rfl _ _ rfl rfl (by kernel_rfl) rfl rfl (by simp [insC]) ?_;intro V hE';(try dsimp only [List.set_cons_zero,List.set_cons_succ] at hE');replace hE :=Aside0.mk hE';clear hE') | ((with_reducible refine gate_load 5 ?_);(try refine gate_guard (by rfl) ?_);first | refine zam rfl _ rfl rfl (hc0.out _ hE.out.b) ?_ | refine zam rfl _ rfl rfl (hc1.out _ hE.out.b) ?_ | refine zam rfl _ rfl rfl (hc1.out _ hE.out.env.b) ?_) | (go_at_call 36;refine (yct.calls 203 false _ (by decide)).mono ?_;rintro e V3 ⟨rfl,hd5⟩;replace hE :=Aside0.mk (hE.out.under (zai hd5));clear hd5) | ((with_reducible refine gate_lookMap 73 ?_);refine zbi hE.out rfl _ _ rfl (203) 1 rfl rfl (by decide) ?_;replace hE :=Aside0.mk hE.out.env))
    replace hE : Aside0 (Env W _ [(_,insC 0 _ 0 0 0 0),(_,insC 0 0 0 0 0 0)]) :=⟨hE.out⟩
    go_upto_region 20 with (((with_reducible refine gate_load 3 ?_);(try refine gate_guard (by rfl) ?_);(refine zag hE.out rfl 0 rfl _ rfl _ _ rfl rfl ?_)))
    go_wp2_with (first | ((with_reducible refine gate_region 20 ?_);((refine zak (fun V => Env W V [_]) [(0,0),(2,0),(3,0),(6,0),(7,0),(1,1),(4,1),(5,0),(8,1),(9,2)] [10,11,12] [10,11,12] 13 (by kernel_rfl) rfl rfl (by kernel_rfl) (by intro c a d v w h;cases d <;> exact h) ((hE.out.drewN 1).one (i :=0) rfl) ?_);replace hE :=Aside0.mk (hE.out.drewN 1);have hS0 :=hE.out.one (i :=0) rfl;(repeat (refine Sch.pureN (v :=?_) (a' :=?_) rfl rfl (by rfl) ?_ ?_ ?_;rotate_left 2;(· (intro w';go_simp <;> (repeat (rw [if_pos (by omega)])) <;> with_reducible rfl));(· (simp only [aput] <;> rfl))));(refine Sch.takeN (v :=?_) (a' :=?_) rfl rfl (by rfl) hS0 ?_ ?_ ?_;rotate_left 2;(· (intro w' hS';have qq :=(hS'.at_ 0 _ _ rfl).2.cell 1 _ rfl;go_simp <;> with_reducible rfl));(· (simp only [aput] <;> rfl)));(refine Sch.takeN (v :=?_) (a' :=?_) rfl rfl (by rfl) hS0 ?_ ?_ ?_;rotate_left 2;(· (intro w' hS';have qq :=hc3.out _ hS'.b;go_simp <;> with_reducible rfl));(· (simp only [aput] <;> rfl)));(repeat (refine Sch.pureN (v :=?_) (a' :=?_) rfl rfl (by rfl) ?_ ?_ ?_;rotate_left 2;(· (intro w';go_simp <;> (repeat (fail)) <;> with_reducible rfl));(· (simp only [aput] <;> rfl))));(refine Sch.takeN (v :=?_) (a' :=?_) rfl rfl (by rfl) hS0 ?_ ?_ ?_;rotate_left 2;(· (intro w' hS';have qq :=hc2.out _ hS'.b;go_simp <;> with_reducible rfl));(· (simp only [aput] <;> rfl)));(refine Sch.call (N :=some 76) rfl rfl Tryz.func37 (by kernel_rfl) rfl ?_ (by rfl) rfl ?_ ?_;rotate_left;(· (go_simp <;> with_reducible rfl));refine (ydb.calls v dv _ hD.out).mono ?_;rintro e V3 ⟨rfl,hd5⟩;replace hE :=Aside0.mk (hE.out.under (zai hd5));replace hS0 :=hS0.under (zai hd5);clear hd5;refine ⟨hS0,?_⟩;refine Sch.norm (a' :=?_) ?_ ?_;rotate_left;(· (simp only [aput] <;> rfl)));(refine Sch.tail 10 3 rfl rfl ?_;simp only [List.drop_succ_cons,List.drop_zero,List.drop_nil]))) | ((with_reducible refine gate_store 28 ?_);refine zac hE.out rfl 1 rfl 28 _ _ rfl _ rfl rfl rfl (by kernel_rfl) (zbc _ _ _ _ _ _) ?_;intro V hE';(try dsimp only [List.set_cons_zero,List.set_cons_succ] at hE');replace hE :=Aside0.mk hE';clear hE'))
    have r1 :=run_loadVar_mid (P :=Tryz.prog) _ _ 0 28 (insC 3 _ o dv 0 4).toList _ (hE.out.at_ 1 _ _ rfl).2.range Tryz.underlying28 rfl zca
    refine bodyPost_ret (v :=.tuple #[.agg (insC 3 _ o dv 0 4),.int .i64 0]) ?_ rfl ⟨rfl,hE.out.b⟩
    simp [results,Tryz.results11,asAddr,r1,Act.put])
theorem of_e_bsh {W : World} {ad : Addr} {m cp : Nat} {p x : Int} (hc0 : ∀ V,Below W.heap.size W V → V.cell? ad = some (.int .u8 (p))) (hc1 : ∀ V,Below W.heap.size W V → V.cell? ⟨ad.block,ad.off + 1,none⟩ = some (.int .u8 (203))) (hx : (p = 221 ∧ x = 1) ∨ (p = 253 ∧ x = 2)) (hm : 2 ≤ m ∧ m < 4) (hcp : m ≤ cp) :
    Calls Tryz.prog 11 #[.slice (some ad) m cp] W fun e V => e = .returned (.tuple #[.agg (insC 0 0 0 0 0 0),.int .i64 5]) ∧ Below W.heap.size W V :=by
  have hE :=Aside0.mk (Env.nil W)
  replace hc0 :=Aside0.mk hc0
  replace hc1 :=Aside0.mk hc1
  replace hm :=Aside0.mk hm
  replace hcp :=Aside0.mk hcp
  rcases hx with ⟨rfl,rfl⟩ | ⟨rfl,rfl⟩
  all_goals (
    go_enter Tryz.func11,Tryz.ntmps11
    have em0 : ((m : Int) == 0) = false :=by have :=hm.out;have :=hcp.out;simp;omega
    have g0 : 0 < m :=by have :=hm.out;have :=hcp.out;omega
    have g1 : 1 < m :=by have :=hm.out;have :=hcp.out;omega
    have f2 : decide ((m : Int) < 2) = false :=by have :=hm.out;have :=hcp.out;exact decide_eq_false (by omega)
    have f4 : decide ((m : Int) < 4) = true :=by have :=hm.out;have :=hcp.out;exact decide_eq_true (by omega)
    go_upto_region 6 with (first | ((with_reducible refine gate_alloc 28 ?_);refine zab hE.out rfl (insC 0 0 0 0 0 0) 28 (by kernel_rfl) ?_;intro V g hE';replace hE :=Aside0.mk hE';clear hE') | ((with_reducible refine gate_load 5 ?_);(try refine gate_guard (by rfl) ?_);refine zam rfl _ rfl rfl (hc0.out _ hE.out.b) ?_) | (go_at_call 36;refine (yct.calls _ true _ (by decide)).mono ?_;rintro e V3 ⟨rfl,hd5⟩;replace hE :=Aside0.mk (hE.out.under (zai hd5));clear hd5))
    go_upto_region 17 with (first | ((with_reducible refine gate_mkMap 73 ?_);refine zbr hE.out rfl rfl ?_;intro V r0 hE';replace hE :=Aside0.mk hE';clear hE') | ((with_reducible refine gate_insMap 73 ?_);first | (refine zbw hE.out rfl _ _ _ rfl rfl rfl rfl ?_;intro V hE';replace hE :=Aside0.mk hE';clear hE') | (refine zbv hE.out rfl _ _ _ rfl rfl rfl rfl ?_;intro V hE';replace hE :=Aside0.mk hE';clear hE')) | ((with_reducible refine gate_store 3 ?_);refine zau hE.out rfl 0 rfl 3 _ _ rfl _ _ rfl rfl (by kernel_rfl) rfl rfl (by simp [insC]) ?_;intro V hE';(try dsimp only [List.set_cons_zero,List.set_cons_succ] at hE');replace hE :=Aside0.mk hE';clear hE') | ((with_reducible refine gate_load 5 ?_);(try refine gate_guard (by rfl) ?_);first | refine zam rfl _ rfl rfl (hc0.out _ hE.out.b) ?_ | refine zam rfl _ rfl rfl (hc1.out _ hE.out.b) ?_ | refine zam rfl _ rfl rfl (hc1.out _ hE.out.env.b) ?_) | (go_at_call 36;refine (yct.calls 203 false _ (by decide)).mono ?_;rintro e V3 ⟨rfl,hd5⟩;replace hE :=Aside0.mk (hE.out.under (zai hd5));clear hd5) | ((with_reducible refine gate_lookMap 73 ?_);refine zbi hE.out rfl _ _ rfl (203) 1 rfl rfl (by decide) ?_;replace hE :=Aside0.mk hE.out.env))
    replace hE : Aside0 (Env W _ [(_,insC 0 _ 0 0 0 0),(_,insC 0 0 0 0 0 0)]) :=⟨hE.out⟩
    go_wp2_with (first | ((with_reducible refine gate_load 3 ?_);(try refine gate_guard (by rfl) ?_);(refine zag hE.out rfl 0 rfl _ rfl _ _ rfl rfl ?_)) | ((with_reducible refine gate_bld 28 ?_);(try refine gate_guard (by rfl) ?_);refine zao rfl rfl (.agg (insC 0 0 0 0 0 0)) (by kernel_rfl) ?_) | ((with_reducible refine gate_store 28 ?_);refine zac hE.out rfl 1 rfl 28 _ _ rfl _ rfl rfl rfl (by kernel_rfl) (zbc _ _ _ _ _ _) ?_;intro V hE';(try dsimp only [List.set_cons_zero,List.set_cons_succ] at hE');replace hE :=Aside0.mk hE';clear hE'))
    have r1 :=run_loadVar_mid (P :=Tryz.prog) _ _ 0 28 (insC 0 0 0 0 0 0).toList _ (hE.out.at_ 1 _ _ rfl).2.range Tryz.underlying28 rfl zca
    refine bodyPost_ret (v :=.tuple #[.agg (insC 0 0 0 0 0 0),.int .i64 5]) ?_ rfl ⟨rfl,hE.out.b⟩
    simp [results,Tryz.results11,asAddr,r1,Act.put])
end Go.Proofs.YtnelghpendfdmaaGreatDoor.KRow
