/-
 PROVED: length.of of the other examples of the chapter.
-/
import Derived.Laws.BytesString
import Derived.Test.YtnelghpendfdmaaGreatDoorKFp
namespace Go.Proofs.YtnelghpendfdmaaGreatDoor.KRow
set_option maxRecDepth 100000
set_option maxHeartbeats 16000000
open Go Go.RowKit Go.Proofs.YtnelghpendfdmaaGreatDoorW.PrintWords Go.Proofs.YtnelghpendfdmaaGreatDoorW.PrintLast Go.Proofs.YtnelghpendfdmaaGreatDoorW.PrintMore
open Go.Proofs.YtnelghpendfdmaaGreatDoor.HFun
set_option linter.unusedVariables false
set_option linter.unusedSimpArgs false
theorem lfirst16b {W : World} : Calls Tryz.prog 77 #[.agg (insC (0) (0) (16) (0) (0) (2))] W fun e V => e = .returned (.agg (plC (ByteArray.mk #[53,51]) (ByteArray.mk #[53,56]))) ∧ Below W.heap.size W V :=by
 have hE :=Aside0.mk (Env.nil W)
 go_enter Tryz.func77,Tryz.ntmps77
 go_wp2_with (first | ((with_reducible refine gate_box 28 ?_);refine wpList_new hE.out rfl (insC (0) (0) (16) (0) (0) (2)) 28 rfl ?_;intro V gi hE';replace hE :=Aside0.mk hE';clear hE') | ((with_reducible refine gate_alloc 85 ?_);refine wpList_new hE.out rfl (plC ByteArray.empty ByteArray.empty) 85 (by kernel_rfl) ?_;intro V g hE';replace hE :=Aside0.mk hE';clear hE') | (go_at_call 61;refine (decode_Parts.calls 16 0 2 0 1 0 _ (by decide)).mono ?_;rintro e V3 ⟨rfl,hd5⟩;replace hE :=Aside0.mk (hE.out.under (d0_below hd5));clear hd5) | (go_at_call 65;refine (decode_Reaches.calls 20 (0) (0) (16) (0) (0) (2) false _ (by decide +kernel)).mono ?_;rintro e V3 ⟨rfl,hb⟩;replace hE :=Aside0.mk (hE.out.under hb);clear hb) | ((with_reducible refine gate_load 28 ?_);refine wpList_ld hE.out rfl 1 rfl 28 _ rfl rfl (ld28 _ _ _ _ _ _ _) ?_) | ((with_reducible refine gate_load 3 ?_);(try refine gate_guard (by rfl) ?_);(refine wpList_ld3 hE.out rfl 1 rfl _ rfl _ _ rfl rfl ?_)) | (go_at_call 62;refine lsame.mono ?_;rintro e V3 ⟨rfl,hb⟩;replace hE :=Aside0.mk (hE.out.under hb);clear hb) | ((with_reducible refine gate_store 85 ?_);(refine wpList_st hE.out rfl 0 rfl 85 _ _ rfl _ rfl rfl rfl (by kernel_rfl) (plC_one _ _) ?_);intro V hE';(try dsimp only [List.set_cons_zero,List.set_cons_succ] at hE');replace hE :=Aside0.mk hE';clear hE') | ((with_reducible refine gate_bld 85 ?_);refine wpList_bld24 rfl rfl (.agg (plC (ByteArray.mk #[53,51]) (ByteArray.mk #[53,56]))) (by kernel_rfl) ?_) | ((with_reducible refine gate_bld 136 ?_);go_must (refine wpList_bld24 rfl rfl (.agg #[.string (ByteArray.mk #[52]),.string (ByteArray.mk #[52]),.string (ByteArray.mk #[52]),.string (ByteArray.mk #[52]),.string (ByteArray.mk #[53,51]),.string (ByteArray.mk #[53,56]),.string (ByteArray.mk #[52,56]),.string (ByteArray.mk #[52,56])]) (by kernel_rfl) ?_)) | ((with_reducible refine gate_dst (N :=32) rfl ?_);refine wpList_val' rfl (.agg (plC (ByteArray.mk #[53,51]) (ByteArray.mk #[53,56]))) (by kernel_rfl) ?_))
 have r1 :=run_loadVar_mid (P :=Tryz.prog) _ _ 0 85 (plC (ByteArray.mk #[53,51]) (ByteArray.mk #[53,56])).toList _ (hE.out.at_ 0 _ _ rfl).2.range Tryz.underlying85 rfl info85
 refine bodyPost_ret (v :=.agg (plC (ByteArray.mk #[53,51]) (ByteArray.mk #[53,56]))) ?_ rfl ⟨rfl,hE.out.b⟩
 simp [results,Tryz.results77,asAddr,r1,Act.put]
theorem lmain16b {W : World} : Calls Tryz.prog 64 #[.agg (insC (0) (0) (16) (0) (0) (2))] W fun e V => e = .returned (.agg (plC (ByteArray.mk #[53,51]) (ByteArray.mk #[53,56]))) ∧ Below W.heap.size W V :=by
 have hE :=Aside0.mk (Env.nil W)
 go_enter Tryz.func64,Tryz.ntmps64
 go_wp2_with (first | ((with_reducible refine gate_box 28 ?_);refine wpList_new hE.out rfl (insC (0) (0) (16) (0) (0) (2)) 28 rfl ?_;intro V gi hE';replace hE :=Aside0.mk hE';clear hE') | ((with_reducible refine gate_alloc 85 ?_);refine wpList_new hE.out rfl (plC ByteArray.empty ByteArray.empty) 85 (by kernel_rfl) ?_;intro V g hE';replace hE :=Aside0.mk hE';clear hE') | (go_at_call 61;refine (decode_Parts.calls 16 0 2 0 1 0 _ (by decide)).mono ?_;rintro e V3 ⟨rfl,hd5⟩;replace hE :=Aside0.mk (hE.out.under (d0_below hd5));clear hd5) | ((with_reducible refine gate_load 28 ?_);refine wpList_ld hE.out rfl 1 rfl 28 _ rfl rfl (ld28 _ _ _ _ _ _ _) ?_) | ((with_reducible refine gate_load 3 ?_);(try refine gate_guard (by rfl) ?_);(refine wpList_ld3 hE.out rfl 1 rfl _ rfl _ _ rfl rfl ?_)) | ((with_reducible refine gate_store 85 ?_);(refine wpList_st hE.out rfl 0 rfl 85 _ _ rfl _ rfl rfl rfl (by kernel_rfl) (plC_one _ _) ?_);intro V hE';(try dsimp only [List.set_cons_zero,List.set_cons_succ] at hE');replace hE :=Aside0.mk hE';clear hE') | (go_at_call 77;refine lfirst16b.mono ?_;rintro e V3 ⟨rfl,hb⟩;replace hE :=Aside0.mk (hE.out.under hb);clear hb))
 have r1 :=run_loadVar_mid (P :=Tryz.prog) _ _ 0 85 (plC (ByteArray.mk #[53,51]) (ByteArray.mk #[53,56])).toList _ (hE.out.at_ 0 _ _ rfl).2.range Tryz.underlying85 rfl info85
 refine bodyPost_ret (v :=.agg (plC (ByteArray.mk #[53,51]) (ByteArray.mk #[53,56]))) ?_ rfl ⟨rfl,hE.out.b⟩
 simp [results,Tryz.results64,asAddr,r1,Act.put]
theorem lof16b {W : World} : Calls Tryz.prog 47 #[.agg (insC (0) (0) (16) (0) (0) (2))] W fun e V => e = .returned (.agg (plC (ByteArray.mk #[53,51]) (ByteArray.mk #[53,56]))) ∧ Below W.heap.size W V :=by
 have hE :=Aside0.mk (Env.nil W)
 go_enter Tryz.func47,Tryz.ntmps47
 go_wp2_with (first | ((with_reducible refine gate_box 28 ?_);refine wpList_new hE.out rfl (insC (0) (0) (16) (0) (0) (2)) 28 rfl ?_;intro V gi hE';replace hE :=Aside0.mk hE';clear hE') | ((with_reducible refine gate_alloc 85 ?_);refine wpList_new hE.out rfl (plC ByteArray.empty ByteArray.empty) 85 (by kernel_rfl) ?_;intro V g hE';replace hE :=Aside0.mk hE';clear hE') | (go_at_call 61;refine (decode_Parts.calls 16 0 2 0 1 0 _ (by decide)).mono ?_;rintro e V3 ⟨rfl,hd5⟩;replace hE :=Aside0.mk (hE.out.under (d0_below hd5));clear hd5) | ((with_reducible refine gate_load 28 ?_);refine wpList_ld hE.out rfl 1 rfl 28 _ rfl rfl (ld28 _ _ _ _ _ _ _) ?_) | ((with_reducible refine gate_load 3 ?_);(try refine gate_guard (by rfl) ?_);first | (refine wpList_ld3 hE.out rfl 1 rfl _ rfl _ _ rfl rfl ?_) | (refine wpList_ld3 hE.out rfl 2 rfl _ rfl _ _ rfl rfl ?_)) | ((with_reducible refine gate_store 85 ?_);(first | refine wpList_st hE.out rfl 0 rfl 85 _ _ rfl _ rfl rfl rfl (by kernel_rfl) (plC_one _ _) ?_ | refine wpList_st hE.out rfl 1 rfl 85 _ _ rfl _ rfl rfl rfl (by kernel_rfl) (plC_one _ _) ?_);intro V hE';(try dsimp only [List.set_cons_zero,List.set_cons_succ] at hE');replace hE :=Aside0.mk hE';clear hE') | (go_at_call 64;refine lmain16b.mono ?_;rintro e V3 ⟨rfl,hb⟩;replace hE :=Aside0.mk (hE.out.under hb);clear hb) | ((with_reducible refine gate_load 85 ?_);refine wpList_ld hE.out rfl 0 rfl 85 _ rfl rfl (ld85 _ _ _) ?_))
 have r1 :=run_loadVar_mid (P :=Tryz.prog) _ _ 0 85 (plC (ByteArray.mk #[53,51]) (ByteArray.mk #[53,56])).toList _ (hE.out.at_ 1 _ _ rfl).2.range Tryz.underlying85 rfl info85
 refine bodyPost_ret (v :=.agg (plC (ByteArray.mk #[53,51]) (ByteArray.mk #[53,56]))) ?_ rfl ⟨rfl,hE.out.b⟩
 simp [results,Tryz.results47,asAddr,r1,Act.put]
theorem llast201 {W : World} : Calls Tryz.prog 78 #[.agg (insC (0) (0) (201) (0) (0) (1))] W fun e V => e = .returned (.agg (plC (ByteArray.mk #[52,51,51]) (ByteArray.mk #[52,51,51]))) ∧ Below W.heap.size W V :=by
 have hE :=Aside0.mk (Env.nil W)
 go_enter Tryz.func78,Tryz.ntmps78
 go_wp2_with (first | ((with_reducible refine gate_box 28 ?_);refine wpList_new hE.out rfl (insC (0) (0) (201) (0) (0) (1)) 28 rfl ?_;intro V gi hE';replace hE :=Aside0.mk hE';clear hE') | ((with_reducible refine gate_alloc 85 ?_);refine wpList_new hE.out rfl (plC ByteArray.empty ByteArray.empty) 85 (by kernel_rfl) ?_;intro V g hE';replace hE :=Aside0.mk hE';clear hE') | (go_at_call 61;refine (decode_Parts.calls 201 3 1 1 0 1 _ (by decide)).mono ?_;rintro e V3 ⟨rfl,hd5⟩;replace hE :=Aside0.mk (hE.out.under (d0_below hd5));clear hd5) | ((with_reducible refine gate_load 3 ?_);(try refine gate_guard (by rfl) ?_);(refine wpList_ld3 hE.out rfl 1 rfl _ rfl _ _ rfl rfl ?_)) | (go_at_call 62;refine lsame.mono ?_;rintro e V3 ⟨rfl,hb⟩;replace hE :=Aside0.mk (hE.out.under hb);clear hb) | ((with_reducible refine gate_store 85 ?_);(refine wpList_st hE.out rfl 0 rfl 85 _ _ rfl _ rfl rfl rfl (by kernel_rfl) (plC_one _ _) ?_);intro V hE';(try dsimp only [List.set_cons_zero,List.set_cons_succ] at hE');replace hE :=Aside0.mk hE';clear hE'))
 have r1 :=run_loadVar_mid (P :=Tryz.prog) _ _ 0 85 (plC (ByteArray.mk #[52,51,51]) (ByteArray.mk #[52,51,51])).toList _ (hE.out.at_ 0 _ _ rfl).2.range Tryz.underlying85 rfl info85
 refine bodyPost_ret (v :=.agg (plC (ByteArray.mk #[52,51,51]) (ByteArray.mk #[52,51,51]))) ?_ rfl ⟨rfl,hE.out.b⟩
 simp [results,Tryz.results78,asAddr,r1,Act.put]
theorem lmain201 {W : World} : Calls Tryz.prog 64 #[.agg (insC (0) (0) (201) (0) (0) (1))] W fun e V => e = .returned (.agg (plC (ByteArray.mk #[52,51,51]) (ByteArray.mk #[52,51,51]))) ∧ Below W.heap.size W V :=by
 have hE :=Aside0.mk (Env.nil W)
 go_enter Tryz.func64,Tryz.ntmps64
 go_wp2_with (first | ((with_reducible refine gate_box 28 ?_);refine wpList_new hE.out rfl (insC (0) (0) (201) (0) (0) (1)) 28 rfl ?_;intro V gi hE';replace hE :=Aside0.mk hE';clear hE') | ((with_reducible refine gate_alloc 85 ?_);refine wpList_new hE.out rfl (plC ByteArray.empty ByteArray.empty) 85 (by kernel_rfl) ?_;intro V g hE';replace hE :=Aside0.mk hE';clear hE') | (go_at_call 61;refine (decode_Parts.calls 201 3 1 1 0 1 _ (by decide)).mono ?_;rintro e V3 ⟨rfl,hd5⟩;replace hE :=Aside0.mk (hE.out.under (d0_below hd5));clear hd5) | ((with_reducible refine gate_load 28 ?_);refine wpList_ld hE.out rfl 1 rfl 28 _ rfl rfl (ld28 _ _ _ _ _ _ _) ?_) | ((with_reducible refine gate_load 3 ?_);(try refine gate_guard (by rfl) ?_);(refine wpList_ld3 hE.out rfl 1 rfl _ rfl _ _ rfl rfl ?_)) | ((with_reducible refine gate_store 85 ?_);(refine wpList_st hE.out rfl 0 rfl 85 _ _ rfl _ rfl rfl rfl (by kernel_rfl) (plC_one _ _) ?_);intro V hE';(try dsimp only [List.set_cons_zero,List.set_cons_succ] at hE');replace hE :=Aside0.mk hE';clear hE') | (go_at_call 78;refine llast201.mono ?_;rintro e V3 ⟨rfl,hb⟩;replace hE :=Aside0.mk (hE.out.under hb);clear hb))
 have r1 :=run_loadVar_mid (P :=Tryz.prog) _ _ 0 85 (plC (ByteArray.mk #[52,51,51]) (ByteArray.mk #[52,51,51])).toList _ (hE.out.at_ 0 _ _ rfl).2.range Tryz.underlying85 rfl info85
 refine bodyPost_ret (v :=.agg (plC (ByteArray.mk #[52,51,51]) (ByteArray.mk #[52,51,51]))) ?_ rfl ⟨rfl,hE.out.b⟩
 simp [results,Tryz.results64,asAddr,r1,Act.put]
theorem lof201 {W : World} : Calls Tryz.prog 47 #[.agg (insC (0) (0) (201) (0) (0) (1))] W fun e V => e = .returned (.agg (plC (ByteArray.mk #[52,51,51]) (ByteArray.mk #[52,51,51]))) ∧ Below W.heap.size W V :=by
 have hE :=Aside0.mk (Env.nil W)
 go_enter Tryz.func47,Tryz.ntmps47
 go_wp2_with (first | ((with_reducible refine gate_box 28 ?_);refine wpList_new hE.out rfl (insC (0) (0) (201) (0) (0) (1)) 28 rfl ?_;intro V gi hE';replace hE :=Aside0.mk hE';clear hE') | ((with_reducible refine gate_alloc 85 ?_);refine wpList_new hE.out rfl (plC ByteArray.empty ByteArray.empty) 85 (by kernel_rfl) ?_;intro V g hE';replace hE :=Aside0.mk hE';clear hE') | (go_at_call 61;refine (decode_Parts.calls 201 3 1 1 0 1 _ (by decide)).mono ?_;rintro e V3 ⟨rfl,hd5⟩;replace hE :=Aside0.mk (hE.out.under (d0_below hd5));clear hd5) | ((with_reducible refine gate_load 28 ?_);refine wpList_ld hE.out rfl 1 rfl 28 _ rfl rfl (ld28 _ _ _ _ _ _ _) ?_) | ((with_reducible refine gate_load 3 ?_);(try refine gate_guard (by rfl) ?_);first | (refine wpList_ld3 hE.out rfl 1 rfl _ rfl _ _ rfl rfl ?_) | (refine wpList_ld3 hE.out rfl 2 rfl _ rfl _ _ rfl rfl ?_)) | ((with_reducible refine gate_store 85 ?_);(first | refine wpList_st hE.out rfl 0 rfl 85 _ _ rfl _ rfl rfl rfl (by kernel_rfl) (plC_one _ _) ?_ | refine wpList_st hE.out rfl 1 rfl 85 _ _ rfl _ rfl rfl rfl (by kernel_rfl) (plC_one _ _) ?_);intro V hE';(try dsimp only [List.set_cons_zero,List.set_cons_succ] at hE');replace hE :=Aside0.mk hE';clear hE') | (go_at_call 64;refine lmain201.mono ?_;rintro e V3 ⟨rfl,hb⟩;replace hE :=Aside0.mk (hE.out.under hb);clear hb) | ((with_reducible refine gate_load 85 ?_);refine wpList_ld hE.out rfl 0 rfl 85 _ rfl rfl (ld85 _ _ _) ?_))
 have r1 :=run_loadVar_mid (P :=Tryz.prog) _ _ 0 85 (plC (ByteArray.mk #[52,51,51]) (ByteArray.mk #[52,51,51])).toList _ (hE.out.at_ 1 _ _ rfl).2.range Tryz.underlying85 rfl info85
 refine bodyPost_ret (v :=.agg (plC (ByteArray.mk #[52,51,51]) (ByteArray.mk #[52,51,51]))) ?_ rfl ⟨rfl,hE.out.b⟩
 simp [results,Tryz.results47,asAddr,r1,Act.put]
theorem llast205 {W : World} : Calls Tryz.prog 78 #[.agg (insC (0) (0) (205) (0) (4096) (3))] W fun e V => e = .returned (.agg (plC (ByteArray.mk #[52,51,52,51,51]) (ByteArray.mk #[52,51,52,51,51]))) ∧ Below W.heap.size W V :=by
 have hE :=Aside0.mk (Env.nil W)
 go_enter Tryz.func78,Tryz.ntmps78
 go_wp2_with (first | ((with_reducible refine gate_box 28 ?_);refine wpList_new hE.out rfl (insC (0) (0) (205) (0) (4096) (3)) 28 rfl ?_;intro V gi hE';replace hE :=Aside0.mk hE';clear hE') | ((with_reducible refine gate_alloc 85 ?_);refine wpList_new hE.out rfl (plC ByteArray.empty ByteArray.empty) 85 (by kernel_rfl) ?_;intro V g hE';replace hE :=Aside0.mk hE';clear hE') | (go_at_call 61;refine (decode_Parts.calls 205 3 1 5 0 1 _ (by decide)).mono ?_;rintro e V3 ⟨rfl,hd5⟩;replace hE :=Aside0.mk (hE.out.under (d0_below hd5));clear hd5) | ((with_reducible refine gate_load 3 ?_);(try refine gate_guard (by rfl) ?_);(refine wpList_ld3 hE.out rfl 1 rfl _ rfl _ _ rfl rfl ?_)) | (go_at_call 62;refine lsame.mono ?_;rintro e V3 ⟨rfl,hb⟩;replace hE :=Aside0.mk (hE.out.under hb);clear hb) | ((with_reducible refine gate_store 85 ?_);(refine wpList_st hE.out rfl 0 rfl 85 _ _ rfl _ rfl rfl rfl (by kernel_rfl) (plC_one _ _) ?_);intro V hE';(try dsimp only [List.set_cons_zero,List.set_cons_succ] at hE');replace hE :=Aside0.mk hE';clear hE'))
 have r1 :=run_loadVar_mid (P :=Tryz.prog) _ _ 0 85 (plC (ByteArray.mk #[52,51,52,51,51]) (ByteArray.mk #[52,51,52,51,51])).toList _ (hE.out.at_ 0 _ _ rfl).2.range Tryz.underlying85 rfl info85
 refine bodyPost_ret (v :=.agg (plC (ByteArray.mk #[52,51,52,51,51]) (ByteArray.mk #[52,51,52,51,51]))) ?_ rfl ⟨rfl,hE.out.b⟩
 simp [results,Tryz.results78,asAddr,r1,Act.put]
theorem lmain205 {W : World} : Calls Tryz.prog 64 #[.agg (insC (0) (0) (205) (0) (4096) (3))] W fun e V => e = .returned (.agg (plC (ByteArray.mk #[52,51,52,51,51]) (ByteArray.mk #[52,51,52,51,51]))) ∧ Below W.heap.size W V :=by
 have hE :=Aside0.mk (Env.nil W)
 go_enter Tryz.func64,Tryz.ntmps64
 go_wp2_with (first | ((with_reducible refine gate_box 28 ?_);refine wpList_new hE.out rfl (insC (0) (0) (205) (0) (4096) (3)) 28 rfl ?_;intro V gi hE';replace hE :=Aside0.mk hE';clear hE') | ((with_reducible refine gate_alloc 85 ?_);refine wpList_new hE.out rfl (plC ByteArray.empty ByteArray.empty) 85 (by kernel_rfl) ?_;intro V g hE';replace hE :=Aside0.mk hE';clear hE') | (go_at_call 61;refine (decode_Parts.calls 205 3 1 5 0 1 _ (by decide)).mono ?_;rintro e V3 ⟨rfl,hd5⟩;replace hE :=Aside0.mk (hE.out.under (d0_below hd5));clear hd5) | ((with_reducible refine gate_load 28 ?_);refine wpList_ld hE.out rfl 1 rfl 28 _ rfl rfl (ld28 _ _ _ _ _ _ _) ?_) | ((with_reducible refine gate_load 3 ?_);(try refine gate_guard (by rfl) ?_);(refine wpList_ld3 hE.out rfl 1 rfl _ rfl _ _ rfl rfl ?_)) | ((with_reducible refine gate_store 85 ?_);(refine wpList_st hE.out rfl 0 rfl 85 _ _ rfl _ rfl rfl rfl (by kernel_rfl) (plC_one _ _) ?_);intro V hE';(try dsimp only [List.set_cons_zero,List.set_cons_succ] at hE');replace hE :=Aside0.mk hE';clear hE') | (go_at_call 78;refine llast205.mono ?_;rintro e V3 ⟨rfl,hb⟩;replace hE :=Aside0.mk (hE.out.under hb);clear hb))
 have r1 :=run_loadVar_mid (P :=Tryz.prog) _ _ 0 85 (plC (ByteArray.mk #[52,51,52,51,51]) (ByteArray.mk #[52,51,52,51,51])).toList _ (hE.out.at_ 0 _ _ rfl).2.range Tryz.underlying85 rfl info85
 refine bodyPost_ret (v :=.agg (plC (ByteArray.mk #[52,51,52,51,51]) (ByteArray.mk #[52,51,52,51,51]))) ?_ rfl ⟨rfl,hE.out.b⟩
 simp [results,Tryz.results64,asAddr,r1,Act.put]
theorem lof205 {W : World} : Calls Tryz.prog 47 #[.agg (insC (0) (0) (205) (0) (4096) (3))] W fun e V => e = .returned (.agg (plC (ByteArray.mk #[52,51,52,51,51]) (ByteArray.mk #[52,51,52,51,51]))) ∧ Below W.heap.size W V :=by
 have hE :=Aside0.mk (Env.nil W)
 go_enter Tryz.func47,Tryz.ntmps47
 go_wp2_with (first | ((with_reducible refine gate_box 28 ?_);refine wpList_new hE.out rfl (insC (0) (0) (205) (0) (4096) (3)) 28 rfl ?_;intro V gi hE';replace hE :=Aside0.mk hE';clear hE') | ((with_reducible refine gate_alloc 85 ?_);refine wpList_new hE.out rfl (plC ByteArray.empty ByteArray.empty) 85 (by kernel_rfl) ?_;intro V g hE';replace hE :=Aside0.mk hE';clear hE') | (go_at_call 61;refine (decode_Parts.calls 205 3 1 5 0 1 _ (by decide)).mono ?_;rintro e V3 ⟨rfl,hd5⟩;replace hE :=Aside0.mk (hE.out.under (d0_below hd5));clear hd5) | ((with_reducible refine gate_load 28 ?_);refine wpList_ld hE.out rfl 1 rfl 28 _ rfl rfl (ld28 _ _ _ _ _ _ _) ?_) | ((with_reducible refine gate_load 3 ?_);(try refine gate_guard (by rfl) ?_);first | (refine wpList_ld3 hE.out rfl 1 rfl _ rfl _ _ rfl rfl ?_) | (refine wpList_ld3 hE.out rfl 2 rfl _ rfl _ _ rfl rfl ?_)) | ((with_reducible refine gate_store 85 ?_);(first | refine wpList_st hE.out rfl 0 rfl 85 _ _ rfl _ rfl rfl rfl (by kernel_rfl) (plC_one _ _) ?_ | refine wpList_st hE.out rfl 1 rfl 85 _ _ rfl _ rfl rfl rfl (by kernel_rfl) (plC_one _ _) ?_);intro V hE';(try dsimp only [List.set_cons_zero,List.set_cons_succ] at hE');replace hE :=Aside0.mk hE';clear hE') | (go_at_call 64;refine lmain205.mono ?_;rintro e V3 ⟨rfl,hb⟩;replace hE :=Aside0.mk (hE.out.under hb);clear hb) | ((with_reducible refine gate_load 85 ?_);refine wpList_ld hE.out rfl 0 rfl 85 _ rfl rfl (ld85 _ _ _) ?_))
 have r1 :=run_loadVar_mid (P :=Tryz.prog) _ _ 0 85 (plC (ByteArray.mk #[52,51,52,51,51]) (ByteArray.mk #[52,51,52,51,51])).toList _ (hE.out.at_ 1 _ _ rfl).2.range Tryz.underlying85 rfl info85
 refine bodyPost_ret (v :=.agg (plC (ByteArray.mk #[52,51,52,51,51]) (ByteArray.mk #[52,51,52,51,51]))) ?_ rfl ⟨rfl,hE.out.b⟩
 simp [results,Tryz.results47,asAddr,r1,Act.put]
theorem bsl25 (b : Int) (w : World) : (Instr.buildSlice 25 1 #[(0,.int .u8 b)]).run Tryz.prog w = .ok (.slice (some ⟨w.heap.size,0,none⟩) 1 1) (w.alloc (.cells #[.int .u8 b] 5)) :=by kernel_rfl
theorem run_bsl25 {ev : Operand → Value} {op : Oper} {x : Operand} {b : Int} {w : World} (ho : op.op = .buildSlice 25 1 #[(0,x)]) (hx : ev x = .int .u8 b) : (execOp ev op).run Tryz.prog w = .ok (.value (.slice (some ⟨w.heap.size,0,none⟩) 1 1)) (w.alloc (.cells #[.int .u8 b] 5)) :=by
 have h :=bsl25 b w
 unfold execOp
 simp only [ho]
 simp [hx,h,Result.andThen,-World.alloc_eq]
theorem Sch.eff {i m n : Nat} {ops : Array Oper} {S : World → Prop} {Q : Exit → Act → World → Prop} {tl : List Nat} {o : Oper} {v : Value} {r : List (Nat × Nat)} {a a' : Act} {w w1 : World} (ho : ops[i]? = some o) (hN : o.dst = some n) (hg : Region.wanted o (yielded ops a.tmps) = true) (hrun : (execOp a.eval o).run Tryz.prog w = .ok (.value v) w1) (hS : S w1) (ha : a.put (some n) v = a')
  (h : Sch Tryz.prog ops S Q tl r a' w1) : Sch Tryz.prog ops S Q tl ((i,m + 2) :: r) a w :=by
 refine ⟨o,ho,fun K hK => ?_⟩
 rw [if_pos hg]
 unfold Oper.wp
 simp only [hrun]
 exact hK _ _ hS (by rw [hN,ha];exact h)
theorem run_bstr {V : World} {ev : Operand → Value} {op : Oper} {x : Operand} {g : Nat} {b : Int} {s : ByteArray} (ho : op.op = .convert 25 9 x) (hx : ev x = .slice (some ⟨g,0,none⟩) 1 1) (hc : V.cell? ⟨g,0,none⟩ = some (.int .u8 b)) (hs : ByteArray.empty.push (UInt8.ofNat b.toNat) = s) :
  (execOp ev op).run Tryz.prog V = .ok (.value (.string s)) V :=by
 subst hs
 have h1 :=run_convert_bytes_string (P :=Tryz.prog) V 25 9 5 (some ⟨g,0,none⟩) 1 1 Tryz.underlying25 Tryz.underlying5 Tryz.underlying9
 have h2 :=run_bytesToString (P :=Tryz.prog) V ⟨g,0,none⟩ 1 1 [b] (by
  have hz : (⟨g,0,none⟩ : Addr).add 0 = ⟨g,0,none⟩ :=rfl
  simp [loadCells,loadCellsFrom,load,hz,hc])
 unfold execOp
 simp only [ho,hx]
 simp [h1,h2,Result.andThen]
theorem lmore176 {W : World} : Calls Tryz.prog 63 #[.int .i64 176] W fun e V => e = .returned (.agg (plC (ByteArray.mk #[52,52,51,53]) (ByteArray.mk #[52,52,51,97]))) ∧ Below W.heap.size W V :=by
 have hE :=Aside0.mk (Env.nil W)
 go_enter Tryz.func63,Tryz.ntmps63
 go_upto_region 7 with (first | ((with_reducible refine gate_alloc 85 ?_);refine wpList_new hE.out rfl (plC ByteArray.empty ByteArray.empty) 85 (by kernel_rfl) ?_;intro V g hE';replace hE :=Aside0.mk hE';clear hE') | (go_at_call 61;refine (decode_Parts.calls 176 2 6 0 3 0 _ (by decide)).mono ?_;rintro e V3 ⟨rfl,hd5⟩;replace hE :=Aside0.mk (hE.out.under (d0_below hd5));clear hd5) | ((with_reducible refine gate_bld 106 ?_);refine wpList_bld24 rfl rfl (.agg #[.string (ByteArray.mk #[52,52,51,53]),.string (ByteArray.mk #[52,52,56]),.string (ByteArray.mk #[52,53,52,51]),.string (ByteArray.mk #[52,53,51,52])]) (by kernel_rfl) ?_) | ((with_reducible refine gate_dst (N :=31) rfl ?_);refine wpList_val' rfl (.string (ByteArray.mk #[52,52,51,53])) (by kernel_rfl) ?_) | ((with_reducible refine gate_bld 85 ?_);refine wpList_bld24 rfl rfl (.agg (plC (ByteArray.mk #[52,52,51,53]) ByteArray.empty)) (by kernel_rfl) ?_) | ((with_reducible refine gate_store 85 ?_);(refine wpList_st hE.out rfl 0 rfl 85 _ _ rfl _ rfl rfl rfl (by kernel_rfl) (plC_one _ _) ?_);intro V hE';(try dsimp only [List.set_cons_zero,List.set_cons_succ] at hE');replace hE :=Aside0.mk hE';clear hE') | ((with_reducible refine gate_load 9 ?_);refine wpList_ld9 hE.out rfl 0 rfl _ rfl _ _ rfl rfl ?_) | ((with_reducible refine gate_store 9 ?_);refine wpList_st1 hE.out rfl 0 rfl 9 _ _ rfl _ _ rfl rfl (by kernel_rfl) rfl rfl (by simp [plC]) ?_;intro V hE';(try dsimp only [List.set_cons_zero,List.set_cons_succ] at hE');replace hE :=Aside0.mk hE';clear hE') | ((with_reducible refine gate_dst (N :=40) rfl ?_);refine wpList_val' rfl (.int .i64 4) (by kernel_rfl) ?_))
 replace hE : Aside0 (Env W _ [(_,plC (ByteArray.mk #[52,52,51,53]) (ByteArray.mk #[52,52,51,53])),(_,plC ByteArray.empty ByteArray.empty)]) :=⟨hE.out⟩
 go_upto_region 8 with (first | ((with_reducible refine gate_region 7 ?_);go_must ((refine region_sch (fun V => Env W V [_]) [(0,0),(2,0),(4,0),(6,0),(1,1),(3,0),(5,1),(7,0),(8,0),(9,0),(10,0),(11,2),(12,2)] [13,14,15] [13,14,15] 16 (by kernel_rfl) rfl rfl (by kernel_rfl) (by intro c a d v w h;cases d <;> exact h) ((hE.out.drewN 1).one (i :=0) rfl) ?_);replace hE :=Aside0.mk (hE.out.drewN 1);have hS0 :=hE.out.one (i :=0) rfl;(refine Sch.pureN (v :=?_) (a' :=?_) rfl rfl (by rfl) ?_ ?_ ?_;rotate_left 2;(· (intro w';go_simp <;> (repeat (fail)) <;> with_reducible rfl));(· (simp only [aput] <;> rfl)));(refine Sch.pureN (v :=?_) (a' :=?_) rfl rfl (by rfl) ?_ ?_ ?_;rotate_left 2;(· (intro w';go_simp <;> (repeat (fail)) <;> with_reducible rfl));(· (simp only [aput] <;> rfl)));(refine Sch.pureN (v :=?_) (a' :=?_) rfl rfl (by rfl) ?_ ?_ ?_;rotate_left 2;(· (intro w';go_simp <;> (repeat (fail)) <;> with_reducible rfl));(· (simp only [aput] <;> rfl)));(refine Sch.pureN (v :=?_) (a' :=?_) rfl rfl (by rfl) ?_ ?_ ?_;rotate_left 2;(· (intro w';go_simp <;> (repeat (fail)) <;> with_reducible rfl));(· (simp only [aput] <;> rfl)));(refine Sch.takeN (v :=?_) (a' :=?_) rfl rfl (by rfl) hS0 ?_ ?_ ?_;rotate_left 2;(· (intro w' hS';have qq :=(hS'.at_ 0 _ _ rfl).2.cell 0 _ rfl;go_simp <;> with_reducible rfl));(· (simp only [aput] <;> rfl)));(refine Sch.pureN (v :=(.string (ByteArray.mk #[52,52,51]))) (a' :=?_) rfl rfl (by rfl) (fun w' => by kernel_rfl) ?_ ?_;rotate_left;(· (simp only [aput] <;> rfl)));(refine Sch.takeN (v :=?_) (a' :=?_) rfl rfl (by rfl) hS0 ?_ ?_ ?_;rotate_left 2;(· (intro w' hS';have qq :=(hS'.at_ 0 _ _ rfl).2.cell 0 _ rfl;go_simp <;> with_reducible rfl));(· (simp only [aput] <;> rfl)));(refine Sch.pureN (v :=(.int .u8 53)) (a' :=?_) rfl rfl (by rfl) (fun w' => by kernel_rfl) ?_ ?_;rotate_left;(· (simp only [aput] <;> rfl)));(refine Sch.pureN (v :=(.int .u8 140)) (a' :=?_) rfl rfl (by rfl) (fun w' => by kernel_rfl) ?_ ?_;rotate_left;(· (simp only [aput] <;> rfl)));(refine Sch.pureN (v :=(.int .u8 92)) (a' :=?_) rfl rfl (by rfl) (fun w' => by kernel_rfl) ?_ ?_;rotate_left;(· (simp only [aput] <;> rfl)));(refine Sch.pureN (v :=(.int .u8 97)) (a' :=?_) rfl rfl (by rfl) (fun w' => by kernel_rfl) ?_ ?_;rotate_left;(· (simp only [aput] <;> rfl)));(refine Sch.eff (a' :=?_) rfl rfl (by rfl) (run_bsl25 rfl rfl) ((hE.out.under (below_alloc (Below.refl _ _) _)).one (i :=0) rfl) ?_ ?_;rotate_left;(· (simp only [aput] <;> rfl)));(refine Sch.eff (v :=(.string (ByteArray.mk #[97]))) (a' :=?_) rfl rfl (by rfl) (run_bstr rfl rfl (b :=97) ((BlkAt.box _ #[.int .u8 97] 5).cell 0 _ rfl) (by rfl)) ((hE.out.under (below_alloc (Below.refl _ _) _)).one (i :=0) rfl) ?_ ?_;rotate_left;(· (simp only [aput] <;> rfl)));replace hE :=Aside0.mk (hE.out.under (below_alloc (Below.refl _ _) (.cells #[.int .u8 97] 5)));(refine Sch.tail 13 3 rfl rfl ?_;simp only [List.drop_succ_cons,List.drop_zero,List.drop_nil]))) | ((with_reducible refine gate_dst (N :=55) rfl ?_);refine wpList_val' rfl (.string (ByteArray.mk #[52,52,51,97])) (by kernel_rfl) ?_) | ((with_reducible refine gate_store 9 ?_);refine wpList_st1 hE.out rfl 0 rfl 9 _ _ rfl _ _ rfl rfl (by kernel_rfl) rfl rfl (by simp [plC]) ?_;intro V hE';(try dsimp only [List.set_cons_zero,List.set_cons_succ] at hE');replace hE :=Aside0.mk hE';clear hE'))
 replace hE : Aside0 (Env W _ [(_,plC (ByteArray.mk #[52,52,51,53]) (ByteArray.mk #[52,52,51,97])),(_,plC ByteArray.empty ByteArray.empty)]) :=⟨hE.out⟩
 go_wp2_with (first | ((with_reducible refine gate_load 9 ?_);refine wpList_ld9 hE.out rfl 0 rfl _ rfl _ _ rfl rfl ?_) | ((with_reducible refine gate_dst (N :=60) rfl ?_);refine wpList_val' rfl (.int .u8 53) (by kernel_rfl) ?_) | ((with_reducible refine gate_load 85 ?_);refine wpList_ld hE.out rfl 0 rfl 85 _ rfl rfl (ld85 _ _ _) ?_) | ((with_reducible refine gate_store 85 ?_);(refine wpList_st hE.out rfl 1 rfl 85 _ _ rfl _ rfl rfl rfl (by kernel_rfl) (plC_one _ _) ?_);intro V hE';(try dsimp only [List.set_cons_zero,List.set_cons_succ] at hE');replace hE :=Aside0.mk hE';clear hE'))
 have r1 :=run_loadVar_mid (P :=Tryz.prog) _ _ 0 85 (plC (ByteArray.mk #[52,52,51,53]) (ByteArray.mk #[52,52,51,97])).toList _ (hE.out.at_ 1 _ _ rfl).2.range Tryz.underlying85 rfl info85
 refine bodyPost_ret (v :=.agg (plC (ByteArray.mk #[52,52,51,53]) (ByteArray.mk #[52,52,51,97]))) ?_ rfl ⟨rfl,hE.out.b⟩
 simp [results,Tryz.results63,asAddr,r1,Act.put]
theorem lof176 {W : World} : Calls Tryz.prog 47 #[.agg (insC (2) (0) (176) (0) (0) (2))] W fun e V => e = .returned (.agg (plC (ByteArray.mk #[52,52,51,53]) (ByteArray.mk #[52,52,51,97]))) ∧ Below W.heap.size W V :=by
 have hE :=Aside0.mk (Env.nil W)
 go_enter Tryz.func47,Tryz.ntmps47
 go_wp2_with (first | ((with_reducible refine gate_box 28 ?_);refine wpList_new hE.out rfl (insC (2) (0) (176) (0) (0) (2)) 28 rfl ?_;intro V gi hE';replace hE :=Aside0.mk hE';clear hE') | ((with_reducible refine gate_alloc 85 ?_);refine wpList_new hE.out rfl (plC ByteArray.empty ByteArray.empty) 85 (by kernel_rfl) ?_;intro V g hE';replace hE :=Aside0.mk hE';clear hE') | (go_at_call 61;refine (decode_Parts.calls 176 2 6 0 3 0 _ (by decide)).mono ?_;rintro e V3 ⟨rfl,hd5⟩;replace hE :=Aside0.mk (hE.out.under (d0_below hd5));clear hd5) | ((with_reducible refine gate_load 3 ?_);(try refine gate_guard (by rfl) ?_);(refine wpList_ld3 hE.out rfl 1 rfl _ rfl _ _ rfl rfl ?_)) | ((with_reducible refine gate_store 85 ?_);(refine wpList_st hE.out rfl 0 rfl 85 _ _ rfl _ rfl rfl rfl (by kernel_rfl) (plC_one _ _) ?_);intro V hE';(try dsimp only [List.set_cons_zero,List.set_cons_succ] at hE');replace hE :=Aside0.mk hE';clear hE') | (go_at_call 63;refine lmore176.mono ?_;rintro e V3 ⟨rfl,hb⟩;replace hE :=Aside0.mk (hE.out.under hb);clear hb))
 have r1 :=run_loadVar_mid (P :=Tryz.prog) _ _ 0 85 (plC (ByteArray.mk #[52,52,51,53]) (ByteArray.mk #[52,52,51,97])).toList _ (hE.out.at_ 0 _ _ rfl).2.range Tryz.underlying85 rfl info85
 refine bodyPost_ret (v :=.agg (plC (ByteArray.mk #[52,52,51,53]) (ByteArray.mk #[52,52,51,97]))) ?_ rfl ⟨rfl,hE.out.b⟩
 simp [results,Tryz.results47,asAddr,r1,Act.put]
theorem lOfL1 {W : World} {i0 i1 i2 i3 i4 i5 : Int} {s0 s1 : ByteArray} {ds : List Int} (hchk : decode_Check.f 20 i0 i1 i2 i3 i4 i5 = some 0) (h47 : ∀ V,Calls Tryz.prog 47 #[.agg (insC i0 i1 i2 i3 i4 i5)] V fun e V' => e = .returned (.agg (plC s0 s1)) ∧ Below V.heap.size V V') (hn : ds.length = s1.size) (hn9 : ds.length ≤ 900) (hd : ∀ j : Nat,j < ds.length → (((s1.data.toList.getD j 0).toNat : Int) = 48 + rd ds (j : Int) ∧ 0 ≤ rd ds (j : Int) ∧ rd ds (j : Int) ≤ 9) ∨ (((s1.data.toList.getD j 0).toNat : Int) = 87 + rd ds (j : Int) ∧ 10 ≤ rd ds (j : Int) ∧ rd ds (j : Int) ≤ 35)) :
  Calls Tryz.prog 17 #[.agg (insC i0 i1 i2 i3 i4 i5),.bool true] W fun e V => ∃ A c,e = .returned (.tuple #[.slice A ds.length c,.int .i64 0]) ∧ Below W.heap.size W V ∧ ds.length ≤ c ∧ ∀ V',Below V.heap.size V V' → Kd.C (Kd.int .i64) V' A ds.length ds :=by
 have hE :=Aside0.mk (Env.nil W)
 replace hchk :=Aside0.mk hchk
 replace h47 :=Aside0.mk h47
 replace hd :=Aside0.mk hd
 replace hn9 :=Aside0.mk hn9
 obtain ⟨k,hk⟩ : ∃ k,k = ds.length :=⟨_,rfl⟩
 replace hk :=Aside0.mk hk
 replace hn :=Aside0.mk hn
 go_enter Tryz.func17,Tryz.ntmps17
 go_upto_region 8 with (first | ((with_reducible refine gate_box 28 ?_);refine wpList_new hE.out rfl (insC i0 i1 i2 i3 i4 i5) 28 rfl ?_;intro V gi hE';replace hE :=Aside0.mk hE';clear hE') | ((with_reducible refine gate_load 28 ?_);refine wpList_ld hE.out rfl 0 rfl 28 _ rfl rfl (ld28 _ _ _ _ _ _ _) ?_) | (go_at_call 46;refine (decode_Check.calls 20 i0 i1 i2 i3 i4 i5 0 _ hchk.out).mono ?_;rintro e V3 ⟨rfl,hb⟩;replace hE :=Aside0.mk (hE.out.under hb);clear hb) | (go_at_call 47;refine (h47.out _).mono ?_;rintro e V3 ⟨rfl,hb⟩;replace hE :=Aside0.mk (hE.out.under hb);clear hb) | ((with_reducible refine gate_alloc 85 ?_);refine wpList_new hE.out rfl (plC ByteArray.empty ByteArray.empty) 85 (by kernel_rfl) ?_;intro V g hE';replace hE :=Aside0.mk hE';clear hE') | ((with_reducible refine gate_store 85 ?_);(refine wpList_st hE.out rfl 0 rfl 85 _ _ rfl _ rfl rfl rfl (by kernel_rfl) (plC_one _ _) ?_);intro V hE';(try dsimp only [List.set_cons_zero,List.set_cons_succ] at hE');replace hE :=Aside0.mk hE';clear hE') | ((with_reducible refine gate_load 9 ?_);refine wpList_ld9 hE.out rfl 0 rfl _ rfl _ _ rfl rfl ?_))
 go_wp2_with (((with_reducible refine gate_cv 9 ?_);refine wpList_conv hE.out rfl _ rfl _ rfl ?_;intro V gs cs hE' hcs;replace hE :=Aside0.mk hE';replace hcs :=Aside0.mk hcs;clear hE'))
 go_loopg [9,27] k (fun kq v9 v27 w' => ∃ (i : Nat) (y : List Int),Aside0 (kq + i = ds.length) ∧ Aside0 (y = ds.take i) ∧ Aside0 (EnvI V w' [] v9 y) ∧ v27 = .int .i64 (i : Int))
 case atStart => exact ⟨0,[],⟨by have :=hk.out;omega⟩,⟨rfl⟩,⟨EnvI.start (Env.nil _)⟩,rfl⟩
 case round =>
  obtain ⟨i,y,hi,hy,hI,rfl⟩ :=hrel
  obtain ⟨Ag,cg,eg,_,_⟩ :=Kd.R_reads hI.out.g
  subst eg
  cases gk with
  | zero =>
   have hi' : i = ds.length :=by have :=hi.out;omega
   subst hi'
   have hsz : ¬ (ds.length < s1.size) :=by rw [hn.out];omega
   have ht : ds.take ds.length = ds :=List.take_length
   have hy2 :=hy.out
   rw [ht] at hy2
   subst hy2
   clear ht
   go_wp2_with fail
   go_ret2
   exact ⟨Ag,cg,rfl,hE.out.b.trans (hI.out.env.b.mono hE.out.size),(R_rd hI.out.g).1,fun V' hb => Kd.C_below (R_rd hI.out.g).2 hb⟩
  | succ k1 =>
   have hlt : i < ds.length :=by have :=hi.out;omega
   have hlt2 : i < s1.size :=by rw [← hn.out];exact hlt
   rcases hd.out i hlt with ⟨hb1,hb2,hb3⟩ | ⟨hb1,hb2,hb3⟩
   ·skip
    have hcell : ∀ V2,Below V.heap.size V V2 → V2.cell? ⟨gs,i,none⟩ = some (.int .u8 (48 + rd ds (i : Int))) :=fun V2 hb => by
     have :=hcs.out V2 hb i hlt2
     rwa [hb1] at this
    have e1 : decide (97 ≤ 48 + rd ds (i : Int)) = false :=decide_eq_false (by omega)
    have e2 : IntKind.u8.wrap (48 + rd ds (i : Int) - 48) = rd ds (i : Int) :=by simp only [B.wu8];omega
    have e3 : wrap64 (rd ds (i : Int)) = rd ds (i : Int) :=B.w64 (by omega) (by omega)
    have e6 : wrap64 ((i : Int) + 1) = ((i + 1 : Nat) : Int) :=by rw [B.w64 (by omega) (by have :=hn9.out;omega)];omega
    have htk : ds.take (i + 1) = ds.take i ++ [rd ds (i : Int)] :=by
     rw [List.take_add_one]
     simp [rd,hlt]
    replace hcell :=Aside0.mk hcell
    replace htk :=Aside0.mk htk
    clear hb1 hb2 hb3
    go_wp2_with (first | ((with_reducible refine gate_load 5 ?_);refine wpList_ld8 rfl _ rfl rfl (hcell.out _ hI.out.env.b) ?_) | ((with_reducible refine gate_bsl 41 ?_);refine wpList_bslA rfl #[.int .i64 (wrap64 (rd ds i))] 3 1 (by kernel_rfl) ?_) | ((with_reducible refine gate_builtin (b :=.append) (xs :=#[.tmp 40,.tmp 44]) rfl ?_);at_builtin;refine wpList_app3 hI.out (wrap64 (rd ds i)) rfl (.tmp 40) (.tmp 44) rfl rfl rfl (by have :=hn9.out;have :=hy.out;subst this;rw [List.length_take];omega) ?_;intro v1 V3 hE';replace hI :=Aside0.mk hE';clear hE'))
    go_roundg k1
    case measure => omega
    case rel => exact ⟨i + 1,_,⟨by have :=hi.out;omega⟩,⟨by rw [htk.out,hy.out,e3]⟩,hI,by rw [e6]⟩
   ·skip
    have hcell : ∀ V2,Below V.heap.size V V2 → V2.cell? ⟨gs,i,none⟩ = some (.int .u8 (87 + rd ds (i : Int))) :=fun V2 hb => by
     have :=hcs.out V2 hb i hlt2
     rwa [hb1] at this
    have e1 : decide (97 ≤ 87 + rd ds (i : Int)) = true :=decide_eq_true (by omega)
    have e2 : IntKind.u8.wrap (87 + rd ds (i : Int) - 97) = rd ds (i : Int) - 10 :=by simp only [B.wu8];omega
    have e3 : wrap64 (wrap64 (rd ds (i : Int) - 10) + 10) = rd ds (i : Int) :=by rw [(B.w64 (by omega) (by omega) : wrap64 (rd ds (i : Int) - 10) = rd ds (i : Int) - 10),B.w64 (by omega) (by omega)];omega
    replace e3 :=Aside0.mk e3
    have e6 : wrap64 ((i : Int) + 1) = ((i + 1 : Nat) : Int) :=by rw [B.w64 (by omega) (by have :=hn9.out;omega)];omega
    have htk : ds.take (i + 1) = ds.take i ++ [rd ds (i : Int)] :=by
     rw [List.take_add_one]
     simp [rd,hlt]
    replace hcell :=Aside0.mk hcell
    replace htk :=Aside0.mk htk
    clear hb1 hb2 hb3
    go_wp2_with (first | ((with_reducible refine gate_load 5 ?_);refine wpList_ld8 rfl _ rfl rfl (hcell.out _ hI.out.env.b) ?_) | ((with_reducible refine gate_bsl 41 ?_);refine wpList_bslA rfl #[.int .i64 ((wrap64 (wrap64 (rd ds i - 10) + 10)))] 3 1 (by kernel_rfl) ?_) | ((with_reducible refine gate_builtin (b :=.append) (xs :=#[.tmp 33,.tmp 38]) rfl ?_);at_builtin;refine wpList_app3 hI.out ((wrap64 (wrap64 (rd ds i - 10) + 10))) rfl (.tmp 33) (.tmp 38) rfl rfl rfl (by have :=hn9.out;have :=hy.out;subst this;rw [List.length_take];omega) ?_;intro v1 V3 hE';replace hI :=Aside0.mk hE';clear hE'))
    go_roundg k1
    case measure => omega
    case rel => exact ⟨i + 1,_,⟨by have :=hi.out;omega⟩,⟨by rw [htk.out,hy.out,e3.out]⟩,hI,by rw [e6]⟩
end Go.Proofs.YtnelghpendfdmaaGreatDoor.KRow
