/- LengthFits: for every input the law returns true, and each argument reads as before; the table alu.does lies as the program's text lays it (tied). -/
import Derived.Test.YtnelghpendfdmaaGreatDoorTie
import Derived.Test.YtnelghpendfdmaaGreatDoorCards
import Derived.LaidMore
import Derived.Stop.Joined
import Derived.Test.YtnelghpendfdmaaGreatDoorKFj
import Derived.ShutString
namespace Go.Proofs.YtnelghpendfdmaaGreatDoor.lengthFits
open Go.ChangeShapes Go.WideShapes Go.ChangeAt Go.RowKit
open Go.ChangeMaps (open_string shut_string)
set_option linter.unusedVariables false
theorem own : ownKnob Tryz.prog.godebug = none :=by kernel_rfl
theorem laidOut : laidOutB Tryz.prog = true :=by kernel_rfl
theorem gDoes : Tryz.prog.globalNamed "pendulum/alu.does" = some 0 :=by kernel_rfl
theorem tDoes : (Tryz.prog.globals[0]?).map (·.type) = some 153 :=by kernel_rfl
theorem cellsE : Tryz.prog.cellsOf 152 = 1 :=by kernel_rfl
/-- The door's own heap meets the condition. -/
theorem door_met (os : Os) (args : Array Value) : laidMetH Tryz.prog Rows.lengthFitsRow.laid ((World.doorLaid Tryz.prog 14 os).forCall (fun _ _ => 0) ⟨#[],args,[]⟩).memory :=
 laidMetH_of_parts3 (fuel :=8) (laidMet_of_run' 8 (by kernel_rfl) (by kernel_rfl)) (by kernel_rfl) (by kernel_rfl)
/-- What the condition gives the walks: the table's eight functions. -/
theorem of_laid {W : World} (h : laidMetH Tryz.prog Rows.lengthFitsRow.laid W) : KRow.Table W :=by
 obtain ⟨g,t,cs,fuel,p,hg,ht,hv,hd⟩ :=h.funcs (List.mem_singleton.2 rfl)
 obtain rfl :=Option.some.inj (gDoes.symm.trans hg)
 obtain rfl :=Option.some.inj (tDoes.symm.trans ht)
 have hd' : DataW.trod (funcToken Tryz.prog) Tryz.prog W 0 (fun _ => true) true fuel 153 cs.toList = some (.agg [.held [112,101,110,100,117,108,117,109,47,97,108,117,46,100,111,101,115,36,49],.held [112,101,110,100,117,108,117,109,47,97,108,117,46,100,111,101,115,36,50],.held [112,101,110,100,117,108,117,109,47,97,108,117,46,100,111,101,115,36,51],.held [112,101,110,100,117,108,117,109,47,97,108,117,46,100,111,101,115,36,52],.held [112,101,110,100,117,108,117,109,47,97,108,117,46,100,111,101,115,36,53],.held [112,101,110,100,117,108,117,109,47,97,108,117,46,100,111,101,115,36,54],.held [112,101,110,100,117,108,117,109,47,97,108,117,46,100,111,101,115,36,55],.held [112,101,110,100,117,108,117,109,47,97,108,117,46,100,111,101,115,36,56]],p) :=hd
 obtain ⟨xs,m,_,hx,_,hn,hel⟩ :=DataW.trod_array Tryz.underlying153 hd'
 simp only [Prod.mk.injEq,DataW.agg.injEq] at hx
 obtain ⟨hx,_⟩ :=hx
 have hcell : ∀ (i : Nat) (f0 : FuncId) (b : UInt8) (r : List UInt8),i < 8 → (xs.map (·.1))[i]? = some (.held (b :: r)) → ((List.range Tryz.prog.funcs.size).filter fun f => (Tryz.prog.funcs[f]?).any (·.name.toUTF8.data.toList == b :: r)) = [f0] → W.cell? ⟨0,i,none⟩ = some (.func (.func f0) #[] #[]) :=by
  intro i f0 b r hi hxi hf
  have e :=hel i hi
  rw [cellsE,Nat.mul_one] at e
  rw [List.getElem?_map] at hxi
  obtain ⟨x,hxs,hx1⟩ :=Option.map_eq_some_iff.1 hxi
  rw [hxs] at e
  obtain ⟨x1,x2⟩ :=x
  simp only at hx1
  subst hx1
  have hone : ((cs.toList.drop i).take 1) = [] ∨ ∃ v,(cs.toList.drop i).take 1 = [v] :=by
   cases cs.toList.drop i with
   | nil => exact .inl rfl
   | cons v l => exact .inr ⟨v,rfl⟩
  obtain ⟨v,hv1⟩ : ∃ v,(cs.toList.drop i).take 1 = [v] :=by
   rcases hone with h0 | h0
   ·rw [h0] at e
    cases m with
    | zero => simp [DataW.trod] at e
    | succ m => simp [DataW.trod,Tryz.underlying152] at e
   ·exact h0
  rw [hv1] at e
  have hfn :=func_of_trod (f0 :=f0) Tryz.underlying152 hf e
  subst hfn
  have hcs : cs[i]? = some (.func (.func f0) #[] #[]) :=by
   have : ((cs.toList.drop i).take 1)[0]? = some (Value.func (.func f0) #[] #[]) :=by rw [hv1];rfl
   simpa [List.getElem?_take,List.getElem?_drop] using this
  have :=World.var?_cell hg hv i
  rw [this];exact hcs
 refine ⟨fun i f hf => ?_⟩
 rw [← hx] at hcell
 match i,hf with
 | 0,hf =>
  obtain rfl : 179 = f :=by simpa [KRow.doesF] using hf
  exact hcell 0 179 _ _ (by decide) rfl (by kernel_rfl)
 | 1,hf =>
  obtain rfl : 180 = f :=by simpa [KRow.doesF] using hf
  exact hcell 1 180 _ _ (by decide) rfl (by kernel_rfl)
 | 2,hf =>
  obtain rfl : 181 = f :=by simpa [KRow.doesF] using hf
  exact hcell 2 181 _ _ (by decide) rfl (by kernel_rfl)
 | 3,hf =>
  obtain rfl : 182 = f :=by simpa [KRow.doesF] using hf
  exact hcell 3 182 _ _ (by decide) rfl (by kernel_rfl)
 | 4,hf =>
  obtain rfl : 183 = f :=by simpa [KRow.doesF] using hf
  exact hcell 4 183 _ _ (by decide) rfl (by kernel_rfl)
 | 5,hf =>
  obtain rfl : 185 = f :=by simpa [KRow.doesF] using hf
  exact hcell 5 185 _ _ (by decide) rfl (by kernel_rfl)
 | 6,hf =>
  obtain rfl : 187 = f :=by simpa [KRow.doesF] using hf
  exact hcell 6 187 _ _ (by decide) rfl (by kernel_rfl)
 | 7,hf =>
  obtain rfl : 189 = f :=by simpa [KRow.doesF] using hf
  exact hcell 7 189 _ _ (by decide) rfl (by kernel_rfl)
 | i + 8,hf => simp [KRow.doesF] at hf
set_option maxRecDepth 100000 in
theorem lifted (os : Os) (started : os.Started) (H : Type) (enc : TypeId × Value → H) :
  ReturnsInHanded {} Tryz.checked os 3 .any (fun w args => (Rows.lengthFitsSpec.pre enc Tryz.prog Tryz.f3 [] false w args ∧ laidMetH Tryz.prog Rows.lengthFitsRow.laid w) ∧ sizedMet enc Tryz.prog Tryz.f3 (OpenSpec.ofChange Rows.lengthFitsSpec) false w args)
   (Rows.lengthFitsSpec.post enc Tryz.prog Tryz.f3 false true false false) :=by
 refine returnsInHanded_of_change_and (C :=Tryz.checked) (X :=fun w _ => laidMetH Tryz.prog Rows.lengthFitsRow.laid w) (fun _ _ _ hh h => h.of_heap hh) own started (by kernel_rfl) Tryz.func3
  (ChangeSpec.witness_shaped (enc :=enc) (C :=Tryz.checked) (os :=os) (X :=fun w _ => laidMetH Tryz.prog Rows.lengthFitsRow.laid w) false (World.doorLaid Tryz.prog 14 os) #[.agg KRow.zeroRg.vals,.slice none 0 0] 8 rfl (World.shaped_of_RefB (by kernel_rfl) (by kernel_rfl)) (by kernel_rfl) (by kernel_rfl) (by kernel_rfl) (door_met os _)) ?_
 intro W base args ds gs before hval0 hW _ hsz0 hL _
 have hsz : (DataW.weightsEach Tryz.prog (Tryz.f3.params.toList ++ Rows.lengthFitsSpec.plain.varTypes Tryz.prog) (ds ++ gs)).all (· ≤ reachBytes) = true :=hsz0
 have hval : ∀ (j : Nat) t v,Tryz.f3.params[j]? = some t → args[j]? = some v → Value.okWide Tryz.prog W .any base t v :=hval0
 have hW' :=hW
 obtain ⟨p,q,hA0,hV,rfl,hfz,hnd⟩ :=hW
 have hA : DataW.TrodAll enc Tryz.prog W 0 (fun _ => true) true Tryz.f3.params.toList args.toList ds p :=hA0
 rw [Tryz.params3] at hA hval hsz
 obtain ⟨v0,vs0,d0,ds0,p0,q0,hargs,rfl,rfl,h0,r0⟩ :=trodAll_cons hA
 obtain ⟨v1,vs1,d1,ds1,p1,q1,rfl,rfl,rfl,h1,r1⟩ :=trodAll_cons r0
 obtain ⟨rfl,rfl,rfl⟩ :=trodAll_nil r1
 obtain rfl : args = #[v0,v1] :=by cases args;simp_all
 obtain ⟨rfl,rfl⟩ :=trodVars_none hV
 have k0 :=h0
 have lt0 : ∀ x ∈ p0,x.block < W.heap.size :=by obtain ⟨m,hm⟩ :=k0;exact DataW.trod_lt m _ _ _ hm
 obtain ⟨ρ0,rfl,w0⟩ :=KRow.open_regs (hval 0 24 v0 rfl rfl) h0
 obtain ⟨b1,len1,cap1,rfl⟩ :=okWide_slice Tryz.underlying25 (hval 1 25 v1 rfl rfl)
 have k1 :=h1
 have lt1 : ∀ x ∈ p1,x.block < W.heap.size :=by obtain ⟨m,hm⟩ :=k1;exact DataW.trod_lt m _ _ _ hm
 obtain ⟨z1,w1⟩ : ∃ zs,KRow.IsRow .u8 W b1 len1 cap1 zs :=by
  obtain ⟨fuel,hf⟩ :=h1
  rcases open_ints Tryz.underlying25 Tryz.underlying5 (by kernel_rfl) hf with ⟨hcs,_⟩ | ⟨x,l,c,zs,hcs,_,hl,hm,hz,_,hcell,hwz⟩
  ·simp [Value.cells] at hcs
   obtain ⟨rfl,rfl,rfl⟩ :=hcs
   exact ⟨[],.inl ⟨rfl,rfl,rfl,rfl⟩⟩
  ·simp [Value.cells] at hcs
   obtain ⟨rfl,rfl,rfl⟩ :=hcs
   exact ⟨zs,.inr ⟨_,rfl,hl,hm,by simpa using hz,hcell,hwz⟩⟩
 have y1 : len1 * 1 ≤ 140737488351232 :=Go.Proofs.YtnelghpendfdmaaGreatDoorW.PrintWords.sized_ints hsz (j :=1) (t :=25) rfl rfl Tryz.underlying25 Tryz.underlying5 (by kernel_rfl) (by kernel_rfl) h1
 clear hA0 hval0 hsz0 hsz
 refine (KRow.fitsRow w0 w1 y1 (of_laid hL)).mono fun e W' ⟨he,bel⟩ => ?_
 subst he
 exact ⟨_,rfl,_,_,_,[],_,[],hW',trodAll_mk1 (shut_bool Tryz.underlying4 _),(trodAll_cons_mk (Below.trod laidOut (by kernel_rfl) (of_decide_eq_true (by kernel_rfl)) k0 bel lt0) (trodAll_cons_mk (Below.trod laidOut (by kernel_rfl) (of_decide_eq_true (by kernel_rfl)) k1 bel lt1) trodAll_mk0)),rfl,bel.frame _,fun h => by cases h⟩
theorem over : Rows.lengthFitsRow.holds Tryz.pinned (OpenSpec.ofChange Rows.lengthFitsSpec) :=
 OpenClaim.holds_of_wide 3 Tryz.f3 rfl rfl rfl rfl rfl rfl rfl ⟨rfl,rfl,rfl,rfl,rfl⟩ rfl rfl rfl rfl rfl (by kernel_rfl) Tryz.func3 (by kernel_rfl)
  (of_decide_eq_true (by kernel_rfl)) (by unfold Func.isWrapper;(rw [if_neg (by decide +kernel)];exact ⟨rfl,rfl⟩))
  (fun os started H enc _ => lifted os started H enc)
theorem proved : Rows.LengthFitsSaid :=over
open Go in
theorem card_holds : Rows.LengthFitsCardSaid :=
 Claim7.holds_tied_plain_at .later [] [.funcs] true (true, "2f76b747666b15379de543cd381c2016fd80ceb578a8c5130f7ce0ef26f6543b") true
  proved (fun _ h => by cases h) (by kernel_rfl) (fun _ h => by cases h) lengthFits_row_tie rfl ⟨rfl,rfl⟩ (by kernel_rfl) rfl
  (fun f fn hf hfn => by
   obtain rfl : f = 3 :=Option.some.inj ((show Tryz.prog.funcNamed "pendulum/pendulumlaw12.LengthFits" = some 3 by kernel_rfl).symm.trans hf) |>.symm
   obtain rfl : fn = Tryz.f3 :=(Option.some.inj (Tryz.func3.symm.trans hfn)).symm
   exact ⟨by kernel_rfl,fun j t ht => by
    rw [Tryz.params3] at ht
    have hm : t ∈ [24,25] :=by simpa using Array.mem_of_getElem? ht
    have hall : ([24,25].all fun u => !Tryz.prog.wantsStandIn u) = true :=by kernel_rfl
    exact (show Tryz.prog.wantsStandIn t = false by simpa using List.all_eq_true.1 hall t hm)⟩)
  (by kernel_rfl)
#print axioms card_holds
end Go.Proofs.YtnelghpendfdmaaGreatDoor.lengthFits
namespace Go.Proofs.YtnelghpendfdmaaGreatDoor
/-- The card, under a short name, for the claim. -/
theorem lengthFits_card_holds : Rows.LengthFitsCardSaid :=lengthFits.card_holds
end Go.Proofs.YtnelghpendfdmaaGreatDoor
