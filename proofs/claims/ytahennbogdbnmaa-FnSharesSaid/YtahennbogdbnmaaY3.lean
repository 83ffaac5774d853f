/-
  The functions that a law reaches, each as a pure function, with the proof that the program computes it, and the step from a pure law to the given statement. Conditions: none.
-/
import Derived.Test.YtahennbogdbnmaaY2
set_option linter.unusedVariables false
set_option maxRecDepth 100000
set_option maxHeartbeats 4000000
namespace Go.Proofs.Ytahennbogdbnmaa
open Go Sl

/-- loop.example/g00950/laws.FnShares -/
noncomputable def laws_FnShares (code : List UInt8) : Option Bool :=
  (laws_big code).bind fun R1 =>
  if R1 = true then (some true)
  else ((spec_DrawShareSet code).bind fun R5 =>
  (impl_ShareSet R5.1 R5.2.1 R5.2.2).bind fun R9 =>
  (spec_ShareSet R5.1 R5.2.1 R5.2.2).bind fun R13 =>
  if (!(decide (R9.2 = R13.2))) = true then (some false)
  else ((spec_SharesOk R5.1).bind fun R18 =>
  if (!R18) = true then ((if (decide (((R9.1.List.length : Nat) : Int) = (0 : Int))) = true then ((impl_ShareLeft R5.1).bind fun R25 =>
  some (decide (R25 = (0 : Int))))
  else (some false)).bind (fun (T22 : Bool) =>
  some T22))
  else (bindC (loopO (fun (S28 : Int × Bool × Int) => if (decide (S28.2.2 < ((R5.1.List.length : Nat) : Int))) = true then ((idx R5.1.List S28.2.2).bind fun E33 =>
  bindC (if (decide (E33.Tenant = R5.2.1)) = true then ((spec_Need E33.Quota).bind fun R38 =>
  some (.go (R38, true)))
  else (some (.go (S28.1, S28.2.1))))
  (fun (T35 : Int × Bool) => some (.go (T35.1, T35.2, IntKind.i64.wrap (S28.2.2 + (1 : Int))))))
  else (some (.done (.go (S28.1, S28.2.1)))))
  ((0 : Int), false, (0 : Int)))
  (fun (T30 : Int × Bool) => ((impl_Need R5.2.2).bind fun R43 =>
  (impl_ShareLeft R5.1).bind fun R46 =>
  if (decide (R43 ≤ IntKind.i64.wrap (R46 + T30.1))) = true then (if (decide (((R5.1.List.length : Nat) : Int) > (0 : Int))) = true then (some true)
  else (some (decide (R5.1.Size ≥ (4 : Int)))))
  else (some false)).bind (fun (T41 : Bool) =>
  (if (decide (R5.2.1 ≥ (1 : Int))) = true then (if (decide (R5.2.1 ≤ (99 : Int))) = true then (if (decide (R5.2.2 ≥ (0 : Int))) = true then (if (decide (R5.2.2 ≤ (1000 : Int))) = true then (if T30.2 = true then (some true)
  else (some (decide (((R5.1.List.length : Nat) : Int) < (4 : Int)))))
  else (some false))
  else (some false))
  else (some false))
  else (some false)).bind (fun (T51 : Bool) =>
  (if T41 = true then (some (!(decide (R9.2 = T51))))
  else (some (!(decide (R9.2 = false))))).bind (fun (T58 : Bool) =>
  if T58 = true then (some false)
  else (bindC (loopO (fun (S62 : Int) => (if (decide (S62 < ((R5.1.List.length : Nat) : Int))) = true then (some R9.2)
  else (some false)).bind (fun (T66 : Bool) =>
  if T66 = true then ((idx R5.1.List S62).bind fun E70 =>
  bindC (loopO (fun (S72 : Bool × Int) => if (decide (S72.2 < ((R9.1.List.length : Nat) : Int))) = true then ((if S72.1 = true then (some true)
  else ((idx R9.1.List S72.2).bind fun E80 =>
  some (decide (E80.Tenant = E70.Tenant) && (decide (E80.Quota = E70.Quota) && true)))).bind (fun (T77 : Bool) =>
  some (.go (T77, IntKind.i64.wrap (S72.2 + (1 : Int))))))
  else (some (.done (.go S72.1))))
  (decide (E70.Tenant = R5.2.1), (0 : Int)))
  (fun (T74 : Bool) => if (!T74) = true then (some (.done (.done false)))
  else (some (.go (IntKind.i64.wrap (S62 + (1 : Int)))))))
  else (some (.done (.go ())))))
  (0 : Int))
  (fun (T64 : Unit) => (spec_DrawShareDrop code).bind fun R83 =>
  (impl_ShareDrop R83.1 R83.2).bind fun R87 =>
  (spec_ShareDrop R83.1 R83.2).bind fun R91 =>
  (if (decide (R87.2 = R91.2)) = true then (if (!R87.2) = true then ((impl_Need R5.2.2).bind fun R99 =>
  (spec_Need R5.2.2).bind fun R102 =>
  some (decide (R99 = R102)))
  else ((impl_ShareLeft R87.1).bind fun R105 =>
  (impl_ShareLeft R83.1).bind fun R108 =>
  if (decide (R105 ≥ R108)) = true then ((impl_Need R5.2.2).bind fun R112 =>
  (spec_Need R5.2.2).bind fun R115 =>
  some (decide (R112 = R115)))
  else (some false)))
  else (some false)).bind (fun (T95 : Bool) =>
  some T95))))))))))

theorem laws_FnShares_con (code : List UInt8) (V_code0 : Value) (r : Bool) (hm : laws_FnShares code = some r) :
    Con Try.prog 5 [V_code0] [] [(V_code0, lc code)] (fun _ : Unit => .bool r) (fun _ => []) := by
  refine Con.intro (args := [V_code0]) (n := 209) (val := fun r (_ : Unit) => .bool r) (post := fun _ _ => []) (m := laws_FnShares code) Try.func5 rfl rfl rfl hm ?_
  intro w S hrd
  have HB_V_code0 := hrd _ (.head _)
  clear hrd
  unfold laws_FnShares
  refine TW.seq ?_
  refine TW.region ?_
  refine TO.y (Y.assign rfl) rfl rfl rfl ?_
  refine TO.nil ?_
  refine TE.next ?_
  refine TW.seq ?_
  refine TW.seq ?_
  refine TW.region ?_
  refine TO.y (Y.move rfl) rfl rfl rfl ?_
  refine TO.bind fun R1 H2 => ?_
  refine TO.ef (Ef.call (rest := []) [] (laws_big_con code V_code0 R1 H2) kc6 rfl rfl ⟨(Base.can HB_V_code0), trivial⟩) rfl rfl rfl (fun _ => ?_)
  refine TO.nil ?_
  refine TE.next ?_
  refine TW.cond rfl (fun H4 => ?_) (fun H4 => ?_)
  · refine TW.seq ?_
    refine TW.region ?_
    refine TO.y (Y.assign rfl) rfl rfl rfl ?_
    refine TO.nil ?_
    refine TE.next ?_
    refine TW.ret ?_
    refine TE.then_ret ?_
    exact TE.leaf fun _ _ hf_ hs_ => ret_any (rs := [.tmp 2]) (vs := [.bool true]) (.inl rfl) rfl ⟨rfl, trivial⟩ hf_ hs_ ⟨(), rfl, hs_.pulls [] rfl⟩
  · refine TW.skip ?_
    refine TE.next ?_
    refine TW.seq ?_
    refine TW.region ?_
    refine TO.y (Y.move rfl) rfl rfl rfl ?_
    refine TO.bind fun R5 H6 => ?_
    refine TO.ef (Ef.call (rest := []) [] (spec_DrawShareSet_con code V_code0 R5 H6) kc22 rfl rfl ⟨(Base.can HB_V_code0), trivial⟩) rfl rfl rfl (fun Y7 => ?_)
    refine TO.y (Y.move rfl) rfl rfl rfl ?_
    refine TO.y (Y.extract rfl rfl) rfl rfl rfl ?_
    refine TO.y (Y.extract rfl rfl) rfl rfl rfl ?_
    refine TO.y (Y.extract rfl rfl) rfl rfl rfl ?_
    refine TO.ef (Ef.alloc kz51 rfl) rfl rfl rfl (fun B8 => ?_)
    refine TO.ef0 (Ef.store_box (us := [.int .i64 R5.1.Size, Y7]) (vs' := [.int .i64 R5.1.Size, Y7]) (is' := [.box B8 51 [.int .i64 R5.1.Size, Y7], .own Y7 (lc R5.1.List)]) 0 kk51 rfl rfl rfl (Cel.agg ⟨(One.plain rfl), (One.can (Can.own 1 rfl)), trivial⟩) rfl rfl rfl rfl) rfl rfl (fun _ => ?_)
    refine TO.y (Y.assign rfl) rfl rfl rfl ?_
    refine TO.y (Y.assign rfl) rfl rfl rfl ?_
    refine TO.nil ?_
    refine TE.next ?_
    refine TW.seq ?_
    refine TW.region ?_
    refine TO.y (Y.load_box (v := .agg #[.int .i64 R5.1.Size, Y7]) 0 kk51 rfl rfl rfl) rfl rfl rfl ?_
    refine TO.y (Y.move rfl) rfl rfl rfl ?_
    refine TO.y (Y.move rfl) rfl rfl rfl ?_
    refine TO.bind fun R9 H10 => ?_
    refine TO.ef (Ef.call (rest := [.box B8 51 [.int .i64 R5.1.Size, Y7], .own Y7 (lc R5.1.List)]) [0, 0] (impl_ShareSet_con R5.1 R5.2.1 R5.2.2 Y7 R9 H10) kc23 rfl rfl ⟨(Can.own 1 rfl), trivial⟩) rfl rfl rfl (fun Y11 => ?_)
    refine TO.y (Y.move rfl) rfl rfl rfl ?_
    refine TO.y (Y.extract rfl rfl) rfl rfl rfl ?_
    refine TO.y (Y.extract rfl rfl) rfl rfl rfl ?_
    refine TO.ef (Ef.alloc kz51 rfl) rfl rfl rfl (fun B12 => ?_)
    refine TO.ef0 (Ef.store_box (us := [.int .i64 R9.1.Size, Y11]) (vs' := [.int .i64 R9.1.Size, Y11]) (is' := [.box B12 51 [.int .i64 R9.1.Size, Y11], .own Y11 (lc R9.1.List), .box B8 51 [.int .i64 R5.1.Size, Y7], .own Y7 (lc R5.1.List)]) 0 kk51 rfl rfl rfl (Cel.agg ⟨(One.plain rfl), (One.can (Can.own 1 rfl)), trivial⟩) rfl rfl rfl rfl) rfl rfl (fun _ => ?_)
    refine TO.y (Y.assign rfl) rfl rfl rfl ?_
    refine TO.nil ?_
    refine TE.next ?_
    refine TW.seq ?_
    refine TW.region ?_
    refine TO.y (Y.load_box (v := .agg #[.int .i64 R5.1.Size, Y7]) 2 kk51 rfl rfl rfl) rfl rfl rfl ?_
    refine TO.y (Y.move rfl) rfl rfl rfl ?_
    refine TO.y (Y.move rfl) rfl rfl rfl ?_
    refine TO.bind fun R13 H14 => ?_
    refine TO.ef (Ef.call (rest := [.box B12 51 [.int .i64 R9.1.Size, Y11], .own Y11 (lc R9.1.List), .box B8 51 [.int .i64 R5.1.Size, Y7], .own Y7 (lc R5.1.List)]) [0, 0, 0, 0] (spec_ShareSet_con R5.1 R5.2.1 R5.2.2 Y7 R13 H14) kc24 rfl rfl ⟨(Can.own 3 rfl), trivial⟩) rfl rfl rfl (fun Y15 => ?_)
    refine TO.y (Y.move rfl) rfl rfl rfl ?_
    refine TO.y (Y.extract rfl rfl) rfl rfl rfl ?_
    refine TO.y (Y.extract rfl rfl) rfl rfl rfl ?_
    refine TO.ef (Ef.alloc kz51 rfl) rfl rfl rfl (fun B16 => ?_)
    refine TO.ef0 (Ef.store_box (us := [.int .i64 R13.1.Size, Y15]) (vs' := [.int .i64 R13.1.Size, Y15]) (is' := [.box B16 51 [.int .i64 R13.1.Size, Y15], .own Y15 (lc R13.1.List), .box B12 51 [.int .i64 R9.1.Size, Y11], .own Y11 (lc R9.1.List), .box B8 51 [.int .i64 R5.1.Size, Y7], .own Y7 (lc R5.1.List)]) 0 kk51 rfl rfl rfl (Cel.agg ⟨(One.plain rfl), (One.can (Can.own 1 rfl)), trivial⟩) rfl rfl rfl rfl) rfl rfl (fun _ => ?_)
    refine TO.y (Y.assign rfl) rfl rfl rfl ?_
    refine TO.nil ?_
    refine TE.next ?_
    refine TW.seq ?_
    refine TW.seq ?_
    refine TW.region ?_
    refine TO.y (Y.move rfl) rfl rfl rfl ?_
    refine TO.y (Y.move rfl) rfl rfl rfl ?_
    refine TO.y (Y.neb kb4 rfl rfl) rfl rfl rfl ?_
    refine TO.nil ?_
    refine TE.next ?_
    refine TW.cond rfl (fun H17 => ?_) (fun H17 => ?_)
    · refine TW.seq ?_
      refine TW.region ?_
      refine TO.y (Y.assign rfl) rfl rfl rfl ?_
      refine TO.nil ?_
      refine TE.next ?_
      refine TW.ret ?_
      refine TE.then_ret ?_
      exact TE.leaf fun _ _ hf_ hs_ => ret_any (rs := [.tmp 2]) (vs := [.bool false]) (.inl rfl) rfl ⟨rfl, trivial⟩ hf_ hs_ ⟨(), rfl, hs_.pulls [] rfl⟩
    · refine TW.skip ?_
      refine TE.next ?_
      refine TW.seq ?_
      refine TW.seq ?_
      refine TW.region ?_
      refine TO.y (Y.load_box (v := .agg #[.int .i64 R5.1.Size, Y7]) 4 kk51 rfl rfl rfl) rfl rfl rfl ?_
      refine TO.bind fun R18 H19 => ?_
      refine TO.ef (Ef.call (rest := [.box B16 51 [.int .i64 R13.1.Size, Y15], .own Y15 (lc R13.1.List), .box B12 51 [.int .i64 R9.1.Size, Y11], .own Y11 (lc R9.1.List), .box B8 51 [.int .i64 R5.1.Size, Y7], .own Y7 (lc R5.1.List)]) [0, 0, 0, 0, 0, 0] (spec_SharesOk_con R5.1 Y7 R18 H19) kc25 rfl rfl ⟨(Can.own 5 rfl), trivial⟩) rfl rfl rfl (fun _ => ?_)
      refine TO.y (Y.not rfl) rfl rfl rfl ?_
      refine TO.nil ?_
      refine TE.next ?_
      refine TW.cond rfl (fun H21 => ?_) (fun H21 => ?_)
      · refine TW.seq ?_
        refine TW.joinBX (τ := Bool) (X := Unit) (fun T _ => [(2, .bool T)]) (fun _ _ => []) ?_ (fun T22 X23 => ?_)
        · refine TW.region ?_
          refine TO.y (Y.field_box kf51_1 rfl rfl) rfl rfl rfl ?_
          refine TO.y (Y.load_box (v := Y11) 2 kk49 rfl rfl rfl) rfl rfl rfl ?_
          refine TO.y (Y.len (l := R9.1.List) ke49 (Can.own 3 rfl) rfl) rfl rfl rfl ?_
          refine TO.y (Y.eql rfl rfl) rfl rfl rfl ?_
          refine TO.y (Y.move rfl) rfl rfl rfl ?_
          refine TO.ite (b := decide (((R9.1.List.length : Nat) : Int) = (0 : Int))) (fun H24 => ?_) (fun H24 => ?_)
          · refine TO.y (Y.load_box (v := .agg #[.int .i64 R5.1.Size, Y7]) 4 kk51 rfl rfl rfl) (Gd.at 4 true 56 (decide (((R9.1.List.length : Nat) : Int) = (0 : Int))) rfl rfl rfl (beq_tt H24)) rfl rfl ?_
            refine TO.bind fun R25 H26 => ?_
            refine TO.ef (Ef.call (rest := [.box B16 51 [.int .i64 R13.1.Size, Y15], .own Y15 (lc R13.1.List), .box B12 51 [.int .i64 R9.1.Size, Y11], .own Y11 (lc R9.1.List), .box B8 51 [.int .i64 R5.1.Size, Y7], .own Y7 (lc R5.1.List)]) [0, 0, 0, 0, 0, 0] (impl_ShareLeft_con R5.1 Y7 R25 H26) kc26 rfl rfl ⟨(Can.own 5 rfl), trivial⟩) (Gd.at 4 true 56 (decide (((R9.1.List.length : Nat) : Int) = (0 : Int))) rfl rfl rfl (beq_tt H24)) rfl rfl (fun _ => ?_)
            refine TO.y (Y.eql rfl rfl) (Gd.at 4 true 56 (decide (((R9.1.List.length : Nat) : Int) = (0 : Int))) rfl rfl rfl (beq_tt H24)) rfl rfl ?_
            refine TO.y (Y.pick_t H24 rfl rfl) rfl rfl rfl ?_
            refine TO.y (Y.assign rfl) rfl rfl rfl ?_
            refine TO.nil ?_
            exact TE.jb_go () [] ⟨rfl, trivial⟩ rfl
          · refine TO.off (Gd.at 4 true 56 (decide (((R9.1.List.length : Nat) : Int) = (0 : Int))) rfl rfl rfl (beq_ft H24)) rfl rfl ?_
            refine TO.off (Gd.at 4 true 56 (decide (((R9.1.List.length : Nat) : Int) = (0 : Int))) rfl rfl rfl (beq_ft H24)) rfl rfl ?_
            refine TO.off (Gd.at 4 true 56 (decide (((R9.1.List.length : Nat) : Int) = (0 : Int))) rfl rfl rfl (beq_ft H24)) rfl rfl ?_
            refine TO.y (Y.pick_f H24 rfl rfl) rfl rfl rfl ?_
            refine TO.y (Y.assign rfl) rfl rfl rfl ?_
            refine TO.nil ?_
            exact TE.jb_go () [] ⟨rfl, trivial⟩ rfl
        · refine TE.next ?_
          refine TW.ret ?_
          refine TE.then_ret ?_
          exact TE.leaf fun _ _ hf_ hs_ => ret_any (rs := [.tmp 2]) (vs := [.bool T22]) (.inl rfl) rfl ⟨rfl, trivial⟩ hf_ hs_ ⟨(), rfl, hs_.pulls [] rfl⟩
      · refine TW.skip ?_
        refine TE.next ?_
        refine TW.seq ?_
        refine TW.region ?_
        refine TO.y (Y.assign rfl) rfl rfl rfl ?_
        refine TO.nil ?_
        refine TE.next ?_
        refine TW.seq ?_
        refine TW.region ?_
        refine TO.y (Y.assign rfl) rfl rfl rfl ?_
        refine TO.nil ?_
        refine TE.next ?_
        refine TW.seq ?_
        refine TW.seq ?_
        refine TW.region ?_
        refine TO.y (Y.assign rfl) rfl rfl rfl ?_
        refine TO.nil ?_
        refine TE.next ?_
        refine TW.joinX (τ := Int × Bool) (X := Unit) (fun T _ => [(0, V_code0), (3, .pointer (some ⟨B8, 0, none⟩)), (4, .int .i64 R5.2.1), (5, .int .i64 R5.2.2), (6, .pointer (some ⟨B12, 0, none⟩)), (7, .bool R9.2), (10, .int .i64 T.1), (11, .bool T.2)]) (fun _ _ => [.box B8 51 [.int .i64 R5.1.Size, Y7], .box B12 51 [.int .i64 R9.1.Size, Y11], .own Y7 (lc R5.1.List), .own Y11 (lc R9.1.List)]) ?_ (fun T30 X31 => ?_)
        · refine TW.block ?_
          refine TW.loopX (σ := Int × Bool × Int) (X := Unit) (fun T _ => [(0, V_code0), (3, .pointer (some ⟨B8, 0, none⟩)), (4, .int .i64 R5.2.1), (5, .int .i64 R5.2.2), (6, .pointer (some ⟨B12, 0, none⟩)), (7, .bool R9.2), (10, .int .i64 T.1), (11, .bool T.2.1), (12, .int .i64 T.2.2)]) (fun _ _ => [.box B8 51 [.int .i64 R5.1.Size, Y7], .box B12 51 [.int .i64 R9.1.Size, Y11], .own Y7 (lc R5.1.List), .own Y11 (lc R9.1.List)]) () [4, 2, 3, 2] ⟨rfl, rfl, rfl, rfl, rfl, rfl, rfl, rfl, rfl, trivial⟩ rfl (fun S28 X29 => ?_)
          refine TW.seq ?_
          refine TW.seq ?_
          refine TW.region ?_
          refine TO.y (Y.move rfl) rfl rfl rfl ?_
          refine TO.y (Y.field_box kf51_1 rfl rfl) rfl rfl rfl ?_
          refine TO.y (Y.load_box (v := Y7) 0 kk49 rfl rfl rfl) rfl rfl rfl ?_
          refine TO.y (Y.len (l := R5.1.List) ke49 (Can.own 2 rfl) rfl) rfl rfl rfl ?_
          refine TO.y (Y.lss rfl rfl) rfl rfl rfl ?_
          refine TO.nil ?_
          refine TE.next ?_
          refine TW.cond rfl (fun H32 => ?_) (fun H32 => ?_)
          · refine TW.skip ?_
            refine TE.next ?_
            refine TW.seq ?_
            refine TW.block ?_
            refine TW.seq ?_
            refine TW.region ?_
            refine TO.y (Y.field_box kf51_1 rfl rfl) rfl rfl rfl ?_
            refine TO.y (Y.load_box (v := Y7) 0 kk49 rfl rfl rfl) rfl rfl rfl ?_
            refine TO.y (Y.move rfl) rfl rfl rfl ?_
            refine TO.bind fun E33 H34 => ?_
            refine TO.y (Y.index ke49 (Can.own 2 rfl) H34 rfl rfl) rfl rfl rfl ?_
            refine TO.y (Y.field_el kf59_0 (Can.own 2 rfl) (idx_get H34).2.2 rfl rfl) rfl rfl rfl ?_
            refine TO.y (Y.load_el (us := [.int .i64 E33.Tenant]) (u := .int .i64 E33.Tenant) kk3 rfl (Can.own 2 rfl) (idx_get H34).2.2 rfl rfl rfl rfl rfl) rfl rfl rfl ?_
            refine TO.y (Y.move rfl) rfl rfl rfl ?_
            refine TO.y (Y.eql rfl rfl) rfl rfl rfl ?_
            refine TO.nil ?_
            refine TE.next ?_
            refine TW.joinX (τ := Int × Bool) (X := Unit) (fun T _ => [(0, V_code0), (3, .pointer (some ⟨B8, 0, none⟩)), (4, .int .i64 R5.2.1), (5, .int .i64 R5.2.2), (6, .pointer (some ⟨B12, 0, none⟩)), (7, .bool R9.2), (10, .int .i64 T.1), (11, .bool T.2), (12, .int .i64 S28.2.2)]) (fun _ _ => [.box B8 51 [.int .i64 R5.1.Size, Y7], .box B12 51 [.int .i64 R9.1.Size, Y11], .own Y7 (lc R5.1.List), .own Y11 (lc R9.1.List)]) ?_ (fun T35 X36 => ?_)
            · refine TW.cond rfl (fun H37 => ?_) (fun H37 => ?_)
              · refine TW.seq ?_
                refine TW.region ?_
                refine TO.y (Y.field_box kf51_1 rfl rfl) rfl rfl rfl ?_
                refine TO.y (Y.load_box (v := Y7) 0 kk49 rfl rfl rfl) rfl rfl rfl ?_
                refine TO.y (Y.move rfl) rfl rfl rfl ?_
                refine TO.y (Y.index ke49 (Can.own 2 rfl) H34 rfl rfl) rfl rfl rfl ?_
                refine TO.y (Y.field_el kf59_1 (Can.own 2 rfl) (idx_get H34).2.2 rfl rfl) rfl rfl rfl ?_
                refine TO.y (Y.load_el (us := [.int .i64 E33.Quota]) (u := .int .i64 E33.Quota) kk3 rfl (Can.own 2 rfl) (idx_get H34).2.2 rfl rfl rfl rfl rfl) rfl rfl rfl ?_
                refine TO.bind fun R38 H39 => ?_
                refine TO.ef (Ef.call (rest := [.box B8 51 [.int .i64 R5.1.Size, Y7], .box B12 51 [.int .i64 R9.1.Size, Y11], .own Y7 (lc R5.1.List), .own Y11 (lc R9.1.List)]) [0, 0, 0, 0] (spec_Need_con E33.Quota  R38 H39) kc27 rfl rfl trivial) rfl rfl rfl (fun _ => ?_)
                refine TO.y (Y.assign rfl) rfl rfl rfl ?_
                refine TO.nil ?_
                refine TE.next ?_
                refine TW.region ?_
                refine TO.y (Y.assign rfl) rfl rfl rfl ?_
                refine TO.nil ?_
                exact TE.jn_go () [0, 0, 0, 0] ⟨rfl, rfl, rfl, rfl, rfl, rfl, rfl, rfl, rfl, trivial⟩ rfl
              · refine TW.skip ?_
                exact TE.jn_go () [0, 0, 0, 0] ⟨rfl, rfl, rfl, rfl, rfl, rfl, rfl, rfl, rfl, trivial⟩ rfl
            · refine TE.block_normal ?_
              refine TE.next ?_
              refine TW.region ?_
              refine TO.y (Y.move rfl) rfl rfl rfl ?_
              refine TO.y (Y.add rfl rfl) rfl rfl rfl ?_
              refine TO.y (Y.assign rfl) rfl rfl rfl ?_
              refine TO.nil ?_
              exact TE.lp_go () [0, 0, 0, 0] ⟨rfl, rfl, rfl, rfl, rfl, rfl, rfl, rfl, rfl, trivial⟩ rfl
          · refine TW.exit ?_
            refine TE.then_exit ?_
            refine TE.lp_exit ?_
            refine TE.block_exit ?_
            exact TE.jn_go () [0, 0, 0, 0] ⟨rfl, rfl, rfl, rfl, rfl, rfl, rfl, rfl, trivial⟩ rfl
        · refine TE.next ?_
          refine TW.seq ?_
          refine TW.joinBX (τ := Bool) (X := Unit) (fun T _ => [(0, V_code0), (3, .pointer (some ⟨B8, 0, none⟩)), (4, .int .i64 R5.2.1), (5, .int .i64 R5.2.2), (6, .pointer (some ⟨B12, 0, none⟩)), (7, .bool R9.2), (11, .bool T30.2), (13, .bool T)]) (fun _ _ => [.box B8 51 [.int .i64 R5.1.Size, Y7], .box B12 51 [.int .i64 R9.1.Size, Y11], .own Y7 (lc R5.1.List), .own Y11 (lc R9.1.List)]) ?_ (fun T41 X42 => ?_)
          · refine TW.draw (isH := [.box B8 51 [.int .i64 R5.1.Size, Y7], .box B12 51 [.int .i64 R9.1.Size, Y11], .own Y7 (lc R5.1.List), .own Y11 (lc R9.1.List)]) hMix ?_
            refine TA.y (listed' := #[true, false, false, false, false, false, false, false, false, false, false, false, false, false, false, false, false, false, false]) 0 [0, 0, 0, 0] rfl (Y.move rfl) rfl rfl rfl (by kernel_rfl) (by kernel_rfl) (by kernel_rfl) rfl rfl ?_
            refine TA.y (listed' := #[true, false, true, false, false, false, false, false, false, false, false, false, false, false, false, false, false, false, false]) 2 [0, 0, 0, 0] rfl (Y.load_box (v := .agg #[.int .i64 R5.1.Size, Y7]) 0 kk51 rfl rfl rfl) rfl rfl rfl (by kernel_rfl) (by kernel_rfl) (by kernel_rfl) rfl rfl ?_
            refine TA.y (listed' := #[true, false, true, false, true, false, false, false, false, false, false, false, false, false, false, false, false, false, false]) 4 [0, 0, 0, 0] rfl (Y.move rfl) rfl rfl rfl (by kernel_rfl) (by kernel_rfl) (by kernel_rfl) rfl rfl ?_
            refine TA.bind fun R43 H44 => ?_
            refine TA.one 1 (by kernel_rfl) ?_
            refine TX.ef (listed' := #[true, true, true, false, true, false, false, false, false, false, false, false, false, false, false, false, false, false, false]) [0, 0, 0, 0] rfl (Ef.call (rest := [.box B8 51 [.int .i64 R5.1.Size, Y7], .box B12 51 [.int .i64 R9.1.Size, Y11], .own Y7 (lc R5.1.List), .own Y11 (lc R9.1.List)]) [0, 0, 0, 0] (impl_Need_con R5.2.2  R43 H44) kc28 rfl rfl trivial) rfl rfl rfl rfl (fun _ => rfl) (fun _ => ?_)
            refine TA.bind fun R46 H47 => ?_
            refine TA.one 3 (by kernel_rfl) ?_
            refine TX.ef (listed' := #[true, true, true, true, true, false, false, false, false, false, false, false, false, false, false, false, false, false, false]) [0, 0, 0, 0] rfl (Ef.call (rest := [.box B8 51 [.int .i64 R5.1.Size, Y7], .box B12 51 [.int .i64 R9.1.Size, Y11], .own Y7 (lc R5.1.List), .own Y11 (lc R9.1.List)]) [0, 0, 0, 0] (impl_ShareLeft_con R5.1 Y7 R46 H47) kc26 rfl rfl ⟨(Can.own 2 rfl), trivial⟩) rfl rfl rfl rfl (fun _ => rfl) (fun _ => ?_)
            refine TA.y (listed' := #[true, true, true, true, true, true, false, false, false, false, false, false, false, false, false, false, false, false, false]) 5 [0, 0, 0, 0] rfl (Y.add rfl rfl) rfl rfl rfl (by kernel_rfl) (by kernel_rfl) (by kernel_rfl) rfl rfl ?_
            refine TA.y (listed' := #[true, true, true, true, true, true, true, false, false, false, false, false, false, false, false, false, false, false, false]) 6 [0, 0, 0, 0] rfl (Y.leq rfl rfl) rfl rfl rfl (by kernel_rfl) (by kernel_rfl) (by kernel_rfl) rfl rfl ?_
            refine TA.y (listed' := #[true, true, true, true, true, true, true, true, false, false, false, false, false, false, false, false, false, false, false]) 7 [0, 0, 0, 0] rfl (Y.move rfl) rfl rfl rfl (by kernel_rfl) (by kernel_rfl) (by kernel_rfl) rfl rfl ?_
            refine TA.ite (b := decide (R43 ≤ IntKind.i64.wrap (R46 + T30.1))) (fun H49 => ?_) (fun H49 => ?_)
            · refine TA.y (listed' := #[true, true, true, true, true, true, true, true, true, false, false, false, false, false, false, false, false, false, false]) 8 [0, 0, 0, 0] rfl (Y.field_box kf51_1 rfl rfl) (Gd.at 7 true 90 (decide (R43 ≤ IntKind.i64.wrap (R46 + T30.1))) rfl rfl rfl (beq_tt H49)) rfl rfl (by kernel_rfl) (by kernel_rfl) (by kernel_rfl) rfl rfl ?_
              refine TA.y (listed' := #[true, true, true, true, true, true, true, true, true, true, false, false, false, false, false, false, false, false, false]) 9 [0, 0, 0, 0] rfl (Y.load_box (v := Y7) 0 kk49 rfl rfl rfl) (Gd.at 7 true 90 (decide (R43 ≤ IntKind.i64.wrap (R46 + T30.1))) rfl rfl rfl (beq_tt H49)) rfl rfl (by kernel_rfl) (by kernel_rfl) (by kernel_rfl) rfl rfl ?_
              refine TA.y (listed' := #[true, true, true, true, true, true, true, true, true, true, true, false, false, false, false, false, false, false, false]) 10 [0, 0, 0, 0] rfl (Y.len (l := R5.1.List) ke49 (Can.own 2 rfl) rfl) (Gd.at 7 true 90 (decide (R43 ≤ IntKind.i64.wrap (R46 + T30.1))) rfl rfl rfl (beq_tt H49)) rfl rfl (by kernel_rfl) (by kernel_rfl) (by kernel_rfl) rfl rfl ?_
              refine TA.y (listed' := #[true, true, true, true, true, true, true, true, true, true, true, true, false, false, false, false, false, false, false]) 11 [0, 0, 0, 0] rfl (Y.gtr rfl rfl) (Gd.at 7 true 90 (decide (R43 ≤ IntKind.i64.wrap (R46 + T30.1))) rfl rfl rfl (beq_tt H49)) rfl rfl (by kernel_rfl) (by kernel_rfl) (by kernel_rfl) rfl rfl ?_
              refine TA.y (listed' := #[true, true, true, true, true, true, true, true, true, true, true, true, true, false, false, false, false, false, false]) 12 [0, 0, 0, 0] rfl (Y.move rfl) (Gd.at 7 true 90 (decide (R43 ≤ IntKind.i64.wrap (R46 + T30.1))) rfl rfl rfl (beq_tt H49)) rfl rfl (by kernel_rfl) (by kernel_rfl) (by kernel_rfl) rfl rfl ?_
              refine TA.ite (b := decide (((R5.1.List.length : Nat) : Int) > (0 : Int))) (fun H50 => ?_) (fun H50 => ?_)
              · refine TA.off (listed' := #[true, true, true, true, true, true, true, true, true, true, true, true, true, true, false, false, false, false, false]) 13 [0, 0, 0, 0] rfl (Gd.at 12 false 95 (decide (((R5.1.List.length : Nat) : Int) > (0 : Int))) rfl rfl rfl (beq_tf H50)) rfl rfl (by kernel_rfl) (by kernel_rfl) (by kernel_rfl) rfl rfl ?_
                refine TA.off (listed' := #[true, true, true, true, true, true, true, true, true, true, true, true, true, true, true, false, false, false, false]) 14 [0, 0, 0, 0] rfl (Gd.at 12 false 95 (decide (((R5.1.List.length : Nat) : Int) > (0 : Int))) rfl rfl rfl (beq_tf H50)) rfl rfl (by kernel_rfl) (by kernel_rfl) (by kernel_rfl) rfl rfl ?_
                refine TA.off (listed' := #[true, true, true, true, true, true, true, true, true, true, true, true, true, true, true, true, false, false, false]) 15 [0, 0, 0, 0] rfl (Gd.at 12 false 95 (decide (((R5.1.List.length : Nat) : Int) > (0 : Int))) rfl rfl rfl (beq_tf H50)) rfl rfl (by kernel_rfl) (by kernel_rfl) (by kernel_rfl) rfl rfl ?_
                refine TA.y (listed' := #[true, true, true, true, true, true, true, true, true, true, true, true, true, true, true, true, true, false, false]) 16 [0, 0, 0, 0] rfl (Y.pick_t H50 rfl rfl) (Gd.at 7 true 90 (decide (R43 ≤ IntKind.i64.wrap (R46 + T30.1))) rfl rfl rfl (beq_tt H49)) rfl rfl (by kernel_rfl) (by kernel_rfl) (by kernel_rfl) rfl rfl ?_
                refine TA.y (listed' := #[true, true, true, true, true, true, true, true, true, true, true, true, true, true, true, true, true, true, false]) 17 [0, 0, 0, 0] rfl (Y.pick_t H49 rfl rfl) rfl rfl rfl (by kernel_rfl) (by kernel_rfl) (by kernel_rfl) rfl rfl ?_
                refine TA.y (listed' := #[true, true, true, true, true, true, true, true, true, true, true, true, true, true, true, true, true, true, true]) 18 [0, 0, 0, 0] rfl (Y.assign rfl) rfl rfl rfl (by kernel_rfl) (by kernel_rfl) (by kernel_rfl) rfl rfl ?_
                refine TA.nil (by kernel_rfl) ?_
                exact TE.jb_go () [0, 0, 0, 0] ⟨rfl, rfl, rfl, rfl, rfl, rfl, rfl, rfl, trivial⟩ rfl
              · refine TA.y (listed' := #[true, true, true, true, true, true, true, true, true, true, true, true, true, true, false, false, false, false, false]) 13 [0, 0, 0, 0] rfl (Y.field_box kf51_0 rfl rfl) (Gd.at 12 false 95 (decide (((R5.1.List.length : Nat) : Int) > (0 : Int))) rfl rfl rfl (beq_ff H50)) rfl rfl (by kernel_rfl) (by kernel_rfl) (by kernel_rfl) rfl rfl ?_
                refine TA.y (listed' := #[true, true, true, true, true, true, true, true, true, true, true, true, true, true, true, false, false, false, false]) 14 [0, 0, 0, 0] rfl (Y.load_box (v := .int .i64 R5.1.Size) 0 kk3 rfl rfl rfl) (Gd.at 12 false 95 (decide (((R5.1.List.length : Nat) : Int) > (0 : Int))) rfl rfl rfl (beq_ff H50)) rfl rfl (by kernel_rfl) (by kernel_rfl) (by kernel_rfl) rfl rfl ?_
                refine TA.y (listed' := #[true, true, true, true, true, true, true, true, true, true, true, true, true, true, true, true, false, false, false]) 15 [0, 0, 0, 0] rfl (Y.geq rfl rfl) (Gd.at 12 false 95 (decide (((R5.1.List.length : Nat) : Int) > (0 : Int))) rfl rfl rfl (beq_ff H50)) rfl rfl (by kernel_rfl) (by kernel_rfl) (by kernel_rfl) rfl rfl ?_
                refine TA.y (listed' := #[true, true, true, true, true, true, true, true, true, true, true, true, true, true, true, true, true, false, false]) 16 [0, 0, 0, 0] rfl (Y.pick_f H50 rfl rfl) (Gd.at 7 true 90 (decide (R43 ≤ IntKind.i64.wrap (R46 + T30.1))) rfl rfl rfl (beq_tt H49)) rfl rfl (by kernel_rfl) (by kernel_rfl) (by kernel_rfl) rfl rfl ?_
                refine TA.y (listed' := #[true, true, true, true, true, true, true, true, true, true, true, true, true, true, true, true, true, true, false]) 17 [0, 0, 0, 0] rfl (Y.pick_t H49 rfl rfl) rfl rfl rfl (by kernel_rfl) (by kernel_rfl) (by kernel_rfl) rfl rfl ?_
                refine TA.y (listed' := #[true, true, true, true, true, true, true, true, true, true, true, true, true, true, true, true, true, true, true]) 18 [0, 0, 0, 0] rfl (Y.assign rfl) rfl rfl rfl (by kernel_rfl) (by kernel_rfl) (by kernel_rfl) rfl rfl ?_
                refine TA.nil (by kernel_rfl) ?_
                exact TE.jb_go () [0, 0, 0, 0] ⟨rfl, rfl, rfl, rfl, rfl, rfl, rfl, rfl, trivial⟩ rfl
            · refine TA.off (listed' := #[true, true, true, true, true, true, true, true, true, false, false, false, false, false, false, false, false, false, false]) 8 [0, 0, 0, 0] rfl (Gd.at 7 true 90 (decide (R43 ≤ IntKind.i64.wrap (R46 + T30.1))) rfl rfl rfl (beq_ft H49)) rfl rfl (by kernel_rfl) (by kernel_rfl) (by kernel_rfl) rfl rfl ?_
              refine TA.off (listed' := #[true, true, true, true, true, true, true, true, true, true, false, false, false, false, false, false, false, false, false]) 9 [0, 0, 0, 0] rfl (Gd.at 7 true 90 (decide (R43 ≤ IntKind.i64.wrap (R46 + T30.1))) rfl rfl rfl (beq_ft H49)) rfl rfl (by kernel_rfl) (by kernel_rfl) (by kernel_rfl) rfl rfl ?_
              refine TA.off (listed' := #[true, true, true, true, true, true, true, true, true, true, true, false, false, false, false, false, false, false, false]) 10 [0, 0, 0, 0] rfl (Gd.at 7 true 90 (decide (R43 ≤ IntKind.i64.wrap (R46 + T30.1))) rfl rfl rfl (beq_ft H49)) rfl rfl (by kernel_rfl) (by kernel_rfl) (by kernel_rfl) rfl rfl ?_
              refine TA.off (listed' := #[true, true, true, true, true, true, true, true, true, true, true, true, false, false, false, false, false, false, false]) 11 [0, 0, 0, 0] rfl (Gd.at 7 true 90 (decide (R43 ≤ IntKind.i64.wrap (R46 + T30.1))) rfl rfl rfl (beq_ft H49)) rfl rfl (by kernel_rfl) (by kernel_rfl) (by kernel_rfl) rfl rfl ?_
              refine TA.off (listed' := #[true, true, true, true, true, true, true, true, true, true, true, true, true, false, false, false, false, false, false]) 12 [0, 0, 0, 0] rfl (Gd.at 7 true 90 (decide (R43 ≤ IntKind.i64.wrap (R46 + T30.1))) rfl rfl rfl (beq_ft H49)) rfl rfl (by kernel_rfl) (by kernel_rfl) (by kernel_rfl) rfl rfl ?_
              refine TA.off (listed' := #[true, true, true, true, true, true, true, true, true, true, true, true, true, true, false, false, false, false, false]) 13 [0, 0, 0, 0] rfl (Gd.un 12 false 95 rfl rfl rfl) rfl rfl (by kernel_rfl) (by kernel_rfl) (by kernel_rfl) rfl rfl ?_
              refine TA.off (listed' := #[true, true, true, true, true, true, true, true, true, true, true, true, true, true, true, false, false, false, false]) 14 [0, 0, 0, 0] rfl (Gd.un 12 false 95 rfl rfl rfl) rfl rfl (by kernel_rfl) (by kernel_rfl) (by kernel_rfl) rfl rfl ?_
              refine TA.off (listed' := #[true, true, true, true, true, true, true, true, true, true, true, true, true, true, true, true, false, false, false]) 15 [0, 0, 0, 0] rfl (Gd.un 12 false 95 rfl rfl rfl) rfl rfl (by kernel_rfl) (by kernel_rfl) (by kernel_rfl) rfl rfl ?_
              refine TA.off (listed' := #[true, true, true, true, true, true, true, true, true, true, true, true, true, true, true, true, true, false, false]) 16 [0, 0, 0, 0] rfl (Gd.at 7 true 90 (decide (R43 ≤ IntKind.i64.wrap (R46 + T30.1))) rfl rfl rfl (beq_ft H49)) rfl rfl (by kernel_rfl) (by kernel_rfl) (by kernel_rfl) rfl rfl ?_
              refine TA.y (listed' := #[true, true, true, true, true, true, true, true, true, true, true, true, true, true, true, true, true, true, false]) 17 [0, 0, 0, 0] rfl (Y.pick_f H49 rfl rfl) rfl rfl rfl (by kernel_rfl) (by kernel_rfl) (by kernel_rfl) rfl rfl ?_
              refine TA.y (listed' := #[true, true, true, true, true, true, true, true, true, true, true, true, true, true, true, true, true, true, true]) 18 [0, 0, 0, 0] rfl (Y.assign rfl) rfl rfl rfl (by kernel_rfl) (by kernel_rfl) (by kernel_rfl) rfl rfl ?_
              refine TA.nil (by kernel_rfl) ?_
              exact TE.jb_go () [0, 0, 0, 0] ⟨rfl, rfl, rfl, rfl, rfl, rfl, rfl, rfl, trivial⟩ rfl
          · refine TE.next ?_
            refine TW.seq ?_
            refine TW.joinBX (τ := Bool) (X := Unit) (fun T _ => [(0, V_code0), (3, .pointer (some ⟨B8, 0, none⟩)), (4, .int .i64 R5.2.1), (5, .int .i64 R5.2.2), (6, .pointer (some ⟨B12, 0, none⟩)), (7, .bool R9.2), (13, .bool T41), (14, .bool T)]) (fun _ _ => [.box B8 51 [.int .i64 R5.1.Size, Y7], .box B12 51 [.int .i64 R9.1.Size, Y11], .own Y7 (lc R5.1.List), .own Y11 (lc R9.1.List)]) ?_ (fun T51 X52 => ?_)
            · refine TW.region ?_
              refine TO.y (Y.move rfl) rfl rfl rfl ?_
              refine TO.y (Y.geq rfl rfl) rfl rfl rfl ?_
              refine TO.y (Y.move rfl) rfl rfl rfl ?_
              refine TO.ite (b := decide (R5.2.1 ≥ (1 : Int))) (fun H53 => ?_) (fun H53 => ?_)
              · refine TO.y (Y.move rfl) (Gd.at 2 true 103 (decide (R5.2.1 ≥ (1 : Int))) rfl rfl rfl (beq_tt H53)) rfl rfl ?_
                refine TO.y (Y.leq rfl rfl) (Gd.at 2 true 103 (decide (R5.2.1 ≥ (1 : Int))) rfl rfl rfl (beq_tt H53)) rfl rfl ?_
                refine TO.y (Y.pick_t H53 rfl rfl) rfl rfl rfl ?_
                refine TO.y (Y.move rfl) rfl rfl rfl ?_
                refine TO.ite (b := decide (R5.2.1 ≤ (99 : Int))) (fun H54 => ?_) (fun H54 => ?_)
                · refine TO.y (Y.move rfl) (Gd.at 6 true 107 (decide (R5.2.1 ≤ (99 : Int))) rfl rfl rfl (beq_tt H54)) rfl rfl ?_
                  refine TO.y (Y.geq rfl rfl) (Gd.at 6 true 107 (decide (R5.2.1 ≤ (99 : Int))) rfl rfl rfl (beq_tt H54)) rfl rfl ?_
                  refine TO.y (Y.pick_t H54 rfl rfl) rfl rfl rfl ?_
                  refine TO.y (Y.move rfl) rfl rfl rfl ?_
                  refine TO.ite (b := decide (R5.2.2 ≥ (0 : Int))) (fun H55 => ?_) (fun H55 => ?_)
                  · refine TO.y (Y.move rfl) (Gd.at 10 true 111 (decide (R5.2.2 ≥ (0 : Int))) rfl rfl rfl (beq_tt H55)) rfl rfl ?_
                    refine TO.y (Y.leq rfl rfl) (Gd.at 10 true 111 (decide (R5.2.2 ≥ (0 : Int))) rfl rfl rfl (beq_tt H55)) rfl rfl ?_
                    refine TO.y (Y.pick_t H55 rfl rfl) rfl rfl rfl ?_
                    refine TO.y (Y.move rfl) rfl rfl rfl ?_
                    refine TO.ite (b := decide (R5.2.2 ≤ (1000 : Int))) (fun H56 => ?_) (fun H56 => ?_)
                    · refine TO.y (Y.move rfl) (Gd.at 14 true 115 (decide (R5.2.2 ≤ (1000 : Int))) rfl rfl rfl (beq_tt H56)) rfl rfl ?_
                      refine TO.y (Y.move rfl) (Gd.at 14 true 115 (decide (R5.2.2 ≤ (1000 : Int))) rfl rfl rfl (beq_tt H56)) rfl rfl ?_
                      refine TO.ite (b := T30.2) (fun H57 => ?_) (fun H57 => ?_)
                      · refine TO.off (Gd.at 16 false 117 T30.2 rfl rfl rfl (beq_tf H57)) rfl rfl ?_
                        refine TO.off (Gd.at 16 false 117 T30.2 rfl rfl rfl (beq_tf H57)) rfl rfl ?_
                        refine TO.off (Gd.at 16 false 117 T30.2 rfl rfl rfl (beq_tf H57)) rfl rfl ?_
                        refine TO.off (Gd.at 16 false 117 T30.2 rfl rfl rfl (beq_tf H57)) rfl rfl ?_
                        refine TO.y (Y.pick_t H57 rfl rfl) (Gd.at 14 true 115 (decide (R5.2.2 ≤ (1000 : Int))) rfl rfl rfl (beq_tt H56)) rfl rfl ?_
                        refine TO.y (Y.pick_t H56 rfl rfl) rfl rfl rfl ?_
                        refine TO.y (Y.assign rfl) rfl rfl rfl ?_
                        refine TO.nil ?_
                        exact TE.jb_go () [0, 0, 0, 0] ⟨rfl, rfl, rfl, rfl, rfl, rfl, rfl, rfl, trivial⟩ rfl
                      · refine TO.y (Y.field_box kf51_1 rfl rfl) (Gd.at 16 false 117 T30.2 rfl rfl rfl (beq_ff H57)) rfl rfl ?_
                        refine TO.y (Y.load_box (v := Y7) 0 kk49 rfl rfl rfl) (Gd.at 16 false 117 T30.2 rfl rfl rfl (beq_ff H57)) rfl rfl ?_
                        refine TO.y (Y.len (l := R5.1.List) ke49 (Can.own 2 rfl) rfl) (Gd.at 16 false 117 T30.2 rfl rfl rfl (beq_ff H57)) rfl rfl ?_
                        refine TO.y (Y.lss rfl rfl) (Gd.at 16 false 117 T30.2 rfl rfl rfl (beq_ff H57)) rfl rfl ?_
                        refine TO.y (Y.pick_f H57 rfl rfl) (Gd.at 14 true 115 (decide (R5.2.2 ≤ (1000 : Int))) rfl rfl rfl (beq_tt H56)) rfl rfl ?_
                        refine TO.y (Y.pick_t H56 rfl rfl) rfl rfl rfl ?_
                        refine TO.y (Y.assign rfl) rfl rfl rfl ?_
                        refine TO.nil ?_
                        exact TE.jb_go () [0, 0, 0, 0] ⟨rfl, rfl, rfl, rfl, rfl, rfl, rfl, rfl, trivial⟩ rfl
                    · refine TO.off (Gd.at 14 true 115 (decide (R5.2.2 ≤ (1000 : Int))) rfl rfl rfl (beq_ft H56)) rfl rfl ?_
                      refine TO.off (Gd.at 14 true 115 (decide (R5.2.2 ≤ (1000 : Int))) rfl rfl rfl (beq_ft H56)) rfl rfl ?_
                      refine TO.off (Gd.un 16 false 117 rfl rfl rfl) rfl rfl ?_
                      refine TO.off (Gd.un 16 false 117 rfl rfl rfl) rfl rfl ?_
                      refine TO.off (Gd.un 16 false 117 rfl rfl rfl) rfl rfl ?_
                      refine TO.off (Gd.un 16 false 117 rfl rfl rfl) rfl rfl ?_
                      refine TO.off (Gd.at 14 true 115 (decide (R5.2.2 ≤ (1000 : Int))) rfl rfl rfl (beq_ft H56)) rfl rfl ?_
                      refine TO.y (Y.pick_f H56 rfl rfl) rfl rfl rfl ?_
                      refine TO.y (Y.assign rfl) rfl rfl rfl ?_
                      refine TO.nil ?_
                      exact TE.jb_go () [0, 0, 0, 0] ⟨rfl, rfl, rfl, rfl, rfl, rfl, rfl, rfl, trivial⟩ rfl
                  · refine TO.off (Gd.at 10 true 111 (decide (R5.2.2 ≥ (0 : Int))) rfl rfl rfl (beq_ft H55)) rfl rfl ?_
                    refine TO.off (Gd.at 10 true 111 (decide (R5.2.2 ≥ (0 : Int))) rfl rfl rfl (beq_ft H55)) rfl rfl ?_
                    refine TO.y (Y.pick_f H55 rfl rfl) rfl rfl rfl ?_
                    refine TO.y (Y.move rfl) rfl rfl rfl ?_
                    refine TO.off (Gd.at 14 true 115 false rfl rfl rfl rfl) rfl rfl ?_
                    refine TO.off (Gd.at 14 true 115 false rfl rfl rfl rfl) rfl rfl ?_
                    refine TO.off (Gd.un 16 false 117 rfl rfl rfl) rfl rfl ?_
                    refine TO.off (Gd.un 16 false 117 rfl rfl rfl) rfl rfl ?_
                    refine TO.off (Gd.un 16 false 117 rfl rfl rfl) rfl rfl ?_
                    refine TO.off (Gd.un 16 false 117 rfl rfl rfl) rfl rfl ?_
                    refine TO.off (Gd.at 14 true 115 false rfl rfl rfl rfl) rfl rfl ?_
                    refine TO.y (Y.pick_f rfl rfl rfl) rfl rfl rfl ?_
                    refine TO.y (Y.assign rfl) rfl rfl rfl ?_
                    refine TO.nil ?_
                    exact TE.jb_go () [0, 0, 0, 0] ⟨rfl, rfl, rfl, rfl, rfl, rfl, rfl, rfl, trivial⟩ rfl
                · refine TO.off (Gd.at 6 true 107 (decide (R5.2.1 ≤ (99 : Int))) rfl rfl rfl (beq_ft H54)) rfl rfl ?_
                  refine TO.off (Gd.at 6 true 107 (decide (R5.2.1 ≤ (99 : Int))) rfl rfl rfl (beq_ft H54)) rfl rfl ?_
                  refine TO.y (Y.pick_f H54 rfl rfl) rfl rfl rfl ?_
                  refine TO.y (Y.move rfl) rfl rfl rfl ?_
                  refine TO.off (Gd.at 10 true 111 false rfl rfl rfl rfl) rfl rfl ?_
                  refine TO.off (Gd.at 10 true 111 false rfl rfl rfl rfl) rfl rfl ?_
                  refine TO.y (Y.pick_f rfl rfl rfl) rfl rfl rfl ?_
                  refine TO.y (Y.move rfl) rfl rfl rfl ?_
                  refine TO.off (Gd.at 14 true 115 false rfl rfl rfl rfl) rfl rfl ?_
                  refine TO.off (Gd.at 14 true 115 false rfl rfl rfl rfl) rfl rfl ?_
                  refine TO.off (Gd.un 16 false 117 rfl rfl rfl) rfl rfl ?_
                  refine TO.off (Gd.un 16 false 117 rfl rfl rfl) rfl rfl ?_
                  refine TO.off (Gd.un 16 false 117 rfl rfl rfl) rfl rfl ?_
                  refine TO.off (Gd.un 16 false 117 rfl rfl rfl) rfl rfl ?_
                  refine TO.off (Gd.at 14 true 115 false rfl rfl rfl rfl) rfl rfl ?_
                  refine TO.y (Y.pick_f rfl rfl rfl) rfl rfl rfl ?_
                  refine TO.y (Y.assign rfl) rfl rfl rfl ?_
                  refine TO.nil ?_
                  exact TE.jb_go () [0, 0, 0, 0] ⟨rfl, rfl, rfl, rfl, rfl, rfl, rfl, rfl, trivial⟩ rfl
              · refine TO.off (Gd.at 2 true 103 (decide (R5.2.1 ≥ (1 : Int))) rfl rfl rfl (beq_ft H53)) rfl rfl ?_
                refine TO.off (Gd.at 2 true 103 (decide (R5.2.1 ≥ (1 : Int))) rfl rfl rfl (beq_ft H53)) rfl rfl ?_
                refine TO.y (Y.pick_f H53 rfl rfl) rfl rfl rfl ?_
                refine TO.y (Y.move rfl) rfl rfl rfl ?_
                refine TO.off (Gd.at 6 true 107 false rfl rfl rfl rfl) rfl rfl ?_
                refine TO.off (Gd.at 6 true 107 false rfl rfl rfl rfl) rfl rfl ?_
                refine TO.y (Y.pick_f rfl rfl rfl) rfl rfl rfl ?_
                refine TO.y (Y.move rfl) rfl rfl rfl ?_
                refine TO.off (Gd.at 10 true 111 false rfl rfl rfl rfl) rfl rfl ?_
                refine TO.off (Gd.at 10 true 111 false rfl rfl rfl rfl) rfl rfl ?_
                refine TO.y (Y.pick_f rfl rfl rfl) rfl rfl rfl ?_
                refine TO.y (Y.move rfl) rfl rfl rfl ?_
                refine TO.off (Gd.at 14 true 115 false rfl rfl rfl rfl) rfl rfl ?_
                refine TO.off (Gd.at 14 true 115 false rfl rfl rfl rfl) rfl rfl ?_
                refine TO.off (Gd.un 16 false 117 rfl rfl rfl) rfl rfl ?_
                refine TO.off (Gd.un 16 false 117 rfl rfl rfl) rfl rfl ?_
                refine TO.off (Gd.un 16 false 117 rfl rfl rfl) rfl rfl ?_
                refine TO.off (Gd.un 16 false 117 rfl rfl rfl) rfl rfl ?_
                refine TO.off (Gd.at 14 true 115 false rfl rfl rfl rfl) rfl rfl ?_
                refine TO.y (Y.pick_f rfl rfl rfl) rfl rfl rfl ?_
                refine TO.y (Y.assign rfl) rfl rfl rfl ?_
                refine TO.nil ?_
                exact TE.jb_go () [0, 0, 0, 0] ⟨rfl, rfl, rfl, rfl, rfl, rfl, rfl, rfl, trivial⟩ rfl
            · refine TE.next ?_
              refine TW.seq ?_
              refine TW.seq ?_
              refine TW.joinBX (τ := Bool) (X := Unit) (fun T _ => [(0, V_code0), (3, .pointer (some ⟨B8, 0, none⟩)), (4, .int .i64 R5.2.1), (5, .int .i64 R5.2.2), (6, .pointer (some ⟨B12, 0, none⟩)), (7, .bool R9.2), (129, .bool T)]) (fun _ _ => [.box B8 51 [.int .i64 R5.1.Size, Y7], .box B12 51 [.int .i64 R9.1.Size, Y11], .own Y7 (lc R5.1.List), .own Y11 (lc R9.1.List)]) ?_ (fun T58 X59 => ?_)
              · refine TW.region ?_
                refine TO.y (Y.move rfl) rfl rfl rfl ?_
                refine TO.y (Y.move rfl) rfl rfl rfl ?_
                refine TO.y (Y.move rfl) rfl rfl rfl ?_
                refine TO.ite (b := T41) (fun H60 => ?_) (fun H60 => ?_)
                · refine TO.y (Y.move rfl) (Gd.at 2 true 126 T41 rfl rfl rfl (beq_tt H60)) rfl rfl ?_
                  refine TO.y (Y.pick_t H60 rfl rfl) rfl rfl rfl ?_
                  refine TO.y (Y.neb kb4 rfl rfl) rfl rfl rfl ?_
                  refine TO.nil ?_
                  exact TE.jb_go () [0, 0, 0, 0] ⟨rfl, rfl, rfl, rfl, rfl, rfl, rfl, trivial⟩ rfl
                · refine TO.off (Gd.at 2 true 126 T41 rfl rfl rfl (beq_ft H60)) rfl rfl ?_
                  refine TO.y (Y.pick_f H60 rfl rfl) rfl rfl rfl ?_
                  refine TO.y (Y.neb kb4 rfl rfl) rfl rfl rfl ?_
                  refine TO.nil ?_
                  exact TE.jb_go () [0, 0, 0, 0] ⟨rfl, rfl, rfl, rfl, rfl, rfl, rfl, trivial⟩ rfl
              · refine TE.next ?_
                refine TW.cond rfl (fun H61 => ?_) (fun H61 => ?_)
                · refine TW.seq ?_
                  refine TW.region ?_
                  refine TO.y (Y.assign rfl) rfl rfl rfl ?_
                  refine TO.nil ?_
                  refine TE.next ?_
                  refine TW.ret ?_
                  refine TE.then_ret ?_
                  exact TE.leaf fun _ _ hf_ hs_ => ret_any (rs := [.tmp 2]) (vs := [.bool false]) (.inl rfl) rfl ⟨rfl, trivial⟩ hf_ hs_ ⟨(), rfl, hs_.pulls [] rfl⟩
                · refine TW.skip ?_
                  refine TE.next ?_
                  refine TW.seq ?_
                  refine TW.seq ?_
                  refine TW.region ?_
                  refine TO.y (Y.assign rfl) rfl rfl rfl ?_
                  refine TO.nil ?_
                  refine TE.next ?_
                  refine TW.joinX (τ := Unit) (X := Unit) (fun _ _ => [(0, V_code0), (5, .int .i64 R5.2.2)]) (fun _ _ => []) ?_ (fun T64 X65 => ?_)
                  · refine TW.block ?_
                    refine TW.loopX (σ := Int) (X := Unit) (fun T _ => [(0, V_code0), (3, .pointer (some ⟨B8, 0, none⟩)), (4, .int .i64 R5.2.1), (5, .int .i64 R5.2.2), (6, .pointer (some ⟨B12, 0, none⟩)), (7, .bool R9.2), (15, .int .i64 T)]) (fun _ _ => [.box B8 51 [.int .i64 R5.1.Size, Y7], .box B12 51 [.int .i64 R9.1.Size, Y11], .own Y7 (lc R5.1.List), .own Y11 (lc R9.1.List)]) () [0, 0, 0, 0] ⟨rfl, rfl, rfl, rfl, rfl, rfl, rfl, trivial⟩ rfl (fun S62 X63 => ?_)
                    refine TW.seq ?_
                    refine TW.seq ?_
                    refine TW.joinBX (τ := Bool) (X := Unit) (fun T _ => [(0, V_code0), (3, .pointer (some ⟨B8, 0, none⟩)), (4, .int .i64 R5.2.1), (5, .int .i64 R5.2.2), (6, .pointer (some ⟨B12, 0, none⟩)), (7, .bool R9.2), (15, .int .i64 S62), (137, .bool T)]) (fun _ _ => [.box B8 51 [.int .i64 R5.1.Size, Y7], .box B12 51 [.int .i64 R9.1.Size, Y11], .own Y7 (lc R5.1.List), .own Y11 (lc R9.1.List)]) ?_ (fun T66 X67 => ?_)
                    · refine TW.region ?_
                      refine TO.y (Y.move rfl) rfl rfl rfl ?_
                      refine TO.y (Y.field_box kf51_1 rfl rfl) rfl rfl rfl ?_
                      refine TO.y (Y.load_box (v := Y7) 0 kk49 rfl rfl rfl) rfl rfl rfl ?_
                      refine TO.y (Y.len (l := R5.1.List) ke49 (Can.own 2 rfl) rfl) rfl rfl rfl ?_
                      refine TO.y (Y.lss rfl rfl) rfl rfl rfl ?_
                      refine TO.y (Y.move rfl) rfl rfl rfl ?_
                      refine TO.ite (b := decide (S62 < ((R5.1.List.length : Nat) : Int))) (fun H68 => ?_) (fun H68 => ?_)
                      · refine TO.y (Y.move rfl) (Gd.at 5 true 135 (decide (S62 < ((R5.1.List.length : Nat) : Int))) rfl rfl rfl (beq_tt H68)) rfl rfl ?_
                        refine TO.y (Y.pick_t H68 rfl rfl) rfl rfl rfl ?_
                        refine TO.nil ?_
                        exact TE.jb_go () [0, 0, 0, 0] ⟨rfl, rfl, rfl, rfl, rfl, rfl, rfl, rfl, trivial⟩ rfl
                      · refine TO.off (Gd.at 5 true 135 (decide (S62 < ((R5.1.List.length : Nat) : Int))) rfl rfl rfl (beq_ft H68)) rfl rfl ?_
                        refine TO.y (Y.pick_f H68 rfl rfl) rfl rfl rfl ?_
                        refine TO.nil ?_
                        exact TE.jb_go () [0, 0, 0, 0] ⟨rfl, rfl, rfl, rfl, rfl, rfl, rfl, rfl, trivial⟩ rfl
                    · refine TE.next ?_
                      refine TW.cond rfl (fun H69 => ?_) (fun H69 => ?_)
                      · refine TW.skip ?_
                        refine TE.next ?_
                        refine TW.seq ?_
                        refine TW.block ?_
                        refine TW.seq ?_
                        refine TW.region ?_
                        refine TO.y (Y.field_box kf51_1 rfl rfl) rfl rfl rfl ?_
                        refine TO.y (Y.load_box (v := Y7) 0 kk49 rfl rfl rfl) rfl rfl rfl ?_
                        refine TO.y (Y.move rfl) rfl rfl rfl ?_
                        refine TO.bind fun E70 H71 => ?_
                        refine TO.y (Y.index ke49 (Can.own 2 rfl) H71 rfl rfl) rfl rfl rfl ?_
                        refine TO.y (Y.field_el kf59_0 (Can.own 2 rfl) (idx_get H71).2.2 rfl rfl) rfl rfl rfl ?_
                        refine TO.y (Y.load_el (us := [.int .i64 E70.Tenant]) (u := .int .i64 E70.Tenant) kk3 rfl (Can.own 2 rfl) (idx_get H71).2.2 rfl rfl rfl rfl rfl) rfl rfl rfl ?_
                        refine TO.y (Y.move rfl) rfl rfl rfl ?_
                        refine TO.y (Y.eql rfl rfl) rfl rfl rfl ?_
                        refine TO.y (Y.assign rfl) rfl rfl rfl ?_
                        refine TO.nil ?_
                        refine TE.next ?_
                        refine TW.seq ?_
                        refine TW.seq ?_
                        refine TW.region ?_
                        refine TO.y (Y.assign rfl) rfl rfl rfl ?_
                        refine TO.nil ?_
                        refine TE.next ?_
                        refine TW.joinX (τ := Bool) (X := Unit) (fun T _ => [(0, V_code0), (3, .pointer (some ⟨B8, 0, none⟩)), (4, .int .i64 R5.2.1), (5, .int .i64 R5.2.2), (6, .pointer (some ⟨B12, 0, none⟩)), (7, .bool R9.2), (15, .int .i64 S62), (16, .bool T)]) (fun _ _ => [.box B8 51 [.int .i64 R5.1.Size, Y7], .box B12 51 [.int .i64 R9.1.Size, Y11], .own Y7 (lc R5.1.List), .own Y11 (lc R9.1.List)]) ?_ (fun T74 X75 => ?_)
                        · refine TW.block ?_
                          refine TW.loopX (σ := Bool × Int) (X := Unit) (fun T _ => [(0, V_code0), (3, .pointer (some ⟨B8, 0, none⟩)), (4, .int .i64 R5.2.1), (5, .int .i64 R5.2.2), (6, .pointer (some ⟨B12, 0, none⟩)), (7, .bool R9.2), (15, .int .i64 S62), (16, .bool T.1), (17, .int .i64 T.2)]) (fun _ _ => [.box B8 51 [.int .i64 R5.1.Size, Y7], .box B12 51 [.int .i64 R9.1.Size, Y11], .own Y7 (lc R5.1.List), .own Y11 (lc R9.1.List)]) () [0, 0, 0, 0] ⟨rfl, rfl, rfl, rfl, rfl, rfl, rfl, rfl, rfl, trivial⟩ rfl (fun S72 X73 => ?_)
                          refine TW.seq ?_
                          refine TW.seq ?_
                          refine TW.region ?_
                          refine TO.y (Y.move rfl) rfl rfl rfl ?_
                          refine TO.y (Y.field_box kf51_1 rfl rfl) rfl rfl rfl ?_
                          refine TO.y (Y.load_box (v := Y11) 1 kk49 rfl rfl rfl) rfl rfl rfl ?_
                          refine TO.y (Y.len (l := R9.1.List) ke49 (Can.own 3 rfl) rfl) rfl rfl rfl ?_
                          refine TO.y (Y.lss rfl rfl) rfl rfl rfl ?_
                          refine TO.nil ?_
                          refine TE.next ?_
                          refine TW.cond rfl (fun H76 => ?_) (fun H76 => ?_)
                          · refine TW.skip ?_
                            refine TE.next ?_
                            refine TW.seq ?_
                            refine TW.block ?_
                            refine TW.joinBX (τ := Bool) (X := Unit) (fun T _ => [(0, V_code0), (3, .pointer (some ⟨B8, 0, none⟩)), (4, .int .i64 R5.2.1), (5, .int .i64 R5.2.2), (6, .pointer (some ⟨B12, 0, none⟩)), (7, .bool R9.2), (15, .int .i64 S62), (16, .bool T), (17, .int .i64 S72.2)]) (fun _ _ => [.box B8 51 [.int .i64 R5.1.Size, Y7], .box B12 51 [.int .i64 R9.1.Size, Y11], .own Y7 (lc R5.1.List), .own Y11 (lc R9.1.List)]) ?_ (fun T77 X78 => ?_)
                            · refine TW.draw (isH := [.box B8 51 [.int .i64 R5.1.Size, Y7], .box B12 51 [.int .i64 R9.1.Size, Y11], .own Y7 (lc R5.1.List), .own Y11 (lc R9.1.List)]) hMix ?_
                              refine TA.y (listed' := #[true, false, false, false, false, false, false, false, false, false, false, false, false, false, false]) 0 [0, 0, 0, 0] rfl (Y.move rfl) rfl rfl rfl (by kernel_rfl) (by kernel_rfl) (by kernel_rfl) rfl rfl ?_
                              refine TA.y (listed' := #[true, true, false, false, false, false, false, false, false, false, false, false, false, false, false]) 1 [0, 0, 0, 0] rfl (Y.move rfl) rfl rfl rfl (by kernel_rfl) (by kernel_rfl) (by kernel_rfl) rfl rfl ?_
                              refine TA.ite (b := S72.1) (fun H79 => ?_) (fun H79 => ?_)
                              · refine TA.off (listed' := #[true, true, true, false, false, false, false, false, false, false, false, false, false, false, false]) 2 [0, 0, 0, 0] rfl (Gd.at 1 false 156 S72.1 rfl rfl rfl (beq_tf H79)) rfl rfl (by kernel_rfl) (by kernel_rfl) (by kernel_rfl) rfl rfl ?_
                                refine TA.off (listed' := #[true, true, true, true, false, false, false, false, false, false, false, false, false, false, false]) 3 [0, 0, 0, 0] rfl (Gd.at 1 false 156 S72.1 rfl rfl rfl (beq_tf H79)) rfl rfl (by kernel_rfl) (by kernel_rfl) (by kernel_rfl) rfl rfl ?_
                                refine TA.off (listed' := #[true, true, true, true, true, false, false, false, false, false, false, false, false, false, false]) 4 [0, 0, 0, 0] rfl (Gd.at 1 false 156 S72.1 rfl rfl rfl (beq_tf H79)) rfl rfl (by kernel_rfl) (by kernel_rfl) (by kernel_rfl) rfl rfl ?_
                                refine TA.off (listed' := #[true, true, true, true, true, true, false, false, false, false, false, false, false, false, false]) 5 [0, 0, 0, 0] rfl (Gd.at 1 false 156 S72.1 rfl rfl rfl (beq_tf H79)) rfl rfl (by kernel_rfl) (by kernel_rfl) (by kernel_rfl) rfl rfl ?_
                                refine TA.off (listed' := #[true, true, true, true, true, true, true, false, false, false, false, false, false, false, false]) 6 [0, 0, 0, 0] rfl (Gd.at 1 false 156 S72.1 rfl rfl rfl (beq_tf H79)) rfl rfl (by kernel_rfl) (by kernel_rfl) (by kernel_rfl) rfl rfl ?_
                                refine TA.off (listed' := #[true, true, true, true, true, true, true, true, false, false, false, false, false, false, false]) 7 [0, 0, 0, 0] rfl (Gd.at 1 false 156 S72.1 rfl rfl rfl (beq_tf H79)) rfl rfl (by kernel_rfl) (by kernel_rfl) (by kernel_rfl) rfl rfl ?_
                                refine TA.off (listed' := #[true, true, true, true, true, true, true, true, true, false, false, false, false, false, false]) 8 [0, 0, 0, 0] rfl (Gd.at 1 false 156 S72.1 rfl rfl rfl (beq_tf H79)) rfl rfl (by kernel_rfl) (by kernel_rfl) (by kernel_rfl) rfl rfl ?_
                                refine TA.off (listed' := #[true, true, true, true, true, true, true, true, true, true, false, false, false, false, false]) 9 [0, 0, 0, 0] rfl (Gd.at 1 false 156 S72.1 rfl rfl rfl (beq_tf H79)) rfl rfl (by kernel_rfl) (by kernel_rfl) (by kernel_rfl) rfl rfl ?_
                                refine TA.off (listed' := #[true, true, true, true, true, true, true, true, true, true, true, false, false, false, false]) 10 [0, 0, 0, 0] rfl (Gd.at 1 false 156 S72.1 rfl rfl rfl (beq_tf H79)) rfl rfl (by kernel_rfl) (by kernel_rfl) (by kernel_rfl) rfl rfl ?_
                                refine TA.off (listed' := #[true, true, true, true, true, true, true, true, true, true, true, true, false, false, false]) 11 [0, 0, 0, 0] rfl (Gd.at 1 false 156 S72.1 rfl rfl rfl (beq_tf H79)) rfl rfl (by kernel_rfl) (by kernel_rfl) (by kernel_rfl) rfl rfl ?_
                                refine TA.off (listed' := #[true, true, true, true, true, true, true, true, true, true, true, true, true, false, false]) 12 [0, 0, 0, 0] rfl (Gd.at 1 false 156 S72.1 rfl rfl rfl (beq_tf H79)) rfl rfl (by kernel_rfl) (by kernel_rfl) (by kernel_rfl) rfl rfl ?_
                                refine TA.y (listed' := #[true, true, true, true, true, true, true, true, true, true, true, true, true, true, false]) 13 [0, 0, 0, 0] rfl (Y.pick_t H79 rfl rfl) rfl rfl rfl (by kernel_rfl) (by kernel_rfl) (by kernel_rfl) rfl rfl ?_
                                refine TA.y (listed' := #[true, true, true, true, true, true, true, true, true, true, true, true, true, true, true]) 14 [0, 0, 0, 0] rfl (Y.assign rfl) rfl rfl rfl (by kernel_rfl) (by kernel_rfl) (by kernel_rfl) rfl rfl ?_
                                refine TA.nil (by kernel_rfl) ?_
                                exact TE.jb_go () [0, 0, 0, 0] ⟨rfl, rfl, rfl, rfl, rfl, rfl, rfl, rfl, rfl, trivial⟩ rfl
                              · refine TA.y (listed' := #[true, true, true, false, false, false, false, false, false, false, false, false, false, false, false]) 2 [0, 0, 0, 0] rfl (Y.field_box kf51_1 rfl rfl) (Gd.at 1 false 156 S72.1 rfl rfl rfl (beq_ff H79)) rfl rfl (by kernel_rfl) (by kernel_rfl) (by kernel_rfl) rfl rfl ?_
                                refine TA.y (listed' := #[true, true, true, true, false, false, false, false, false, false, false, false, false, false, false]) 3 [0, 0, 0, 0] rfl (Y.load_box (v := Y11) 1 kk49 rfl rfl rfl) (Gd.at 1 false 156 S72.1 rfl rfl rfl (beq_ff H79)) rfl rfl (by kernel_rfl) (by kernel_rfl) (by kernel_rfl) rfl rfl ?_
                                refine TA.y (listed' := #[true, true, true, true, true, false, false, false, false, false, false, false, false, false, false]) 4 [0, 0, 0, 0] rfl (Y.move rfl) (Gd.at 1 false 156 S72.1 rfl rfl rfl (beq_ff H79)) rfl rfl (by kernel_rfl) (by kernel_rfl) (by kernel_rfl) rfl rfl ?_
                                refine TA.bind fun E80 H81 => ?_
                                refine TA.y (listed' := #[true, true, true, true, true, true, false, false, false, false, false, false, false, false, false]) 5 [0, 0, 0, 0] rfl (Y.index ke49 (Can.own 3 rfl) H81 rfl rfl) (Gd.at 1 false 156 S72.1 rfl rfl rfl (beq_ff H79)) rfl rfl (by kernel_rfl) (by kernel_rfl) (by kernel_rfl) rfl rfl ?_
                                refine TA.y (listed' := #[true, true, true, true, true, true, true, false, false, false, false, false, false, false, false]) 6 [0, 0, 0, 0] rfl (Y.load_el (us := [.int .i64 E80.Tenant, .int .i64 E80.Quota]) (u := .agg #[.int .i64 E80.Tenant, .int .i64 E80.Quota]) kk59 rfl (Can.own 3 rfl) (idx_get H81).2.2 rfl rfl rfl rfl rfl) (Gd.at 1 false 156 S72.1 rfl rfl rfl (beq_ff H79)) rfl rfl (by kernel_rfl) (by kernel_rfl) (by kernel_rfl) rfl rfl ?_
                                refine TA.y (listed' := #[true, true, true, true, true, true, true, true, false, false, false, false, false, false, false]) 7 [0, 0, 0, 0] rfl (Y.field_box kf51_1 rfl rfl) (Gd.at 1 false 156 S72.1 rfl rfl rfl (beq_ff H79)) rfl rfl (by kernel_rfl) (by kernel_rfl) (by kernel_rfl) rfl rfl ?_
                                refine TA.y (listed' := #[true, true, true, true, true, true, true, true, true, false, false, false, false, false, false]) 8 [0, 0, 0, 0] rfl (Y.load_box (v := Y7) 0 kk49 rfl rfl rfl) (Gd.at 1 false 156 S72.1 rfl rfl rfl (beq_ff H79)) rfl rfl (by kernel_rfl) (by kernel_rfl) (by kernel_rfl) rfl rfl ?_
                                refine TA.y (listed' := #[true, true, true, true, true, true, true, true, true, true, false, false, false, false, false]) 9 [0, 0, 0, 0] rfl (Y.move rfl) (Gd.at 1 false 156 S72.1 rfl rfl rfl (beq_ff H79)) rfl rfl (by kernel_rfl) (by kernel_rfl) (by kernel_rfl) rfl rfl ?_
                                refine TA.y (listed' := #[true, true, true, true, true, true, true, true, true, true, true, false, false, false, false]) 10 [0, 0, 0, 0] rfl (Y.index ke49 (Can.own 2 rfl) H71 rfl rfl) (Gd.at 1 false 156 S72.1 rfl rfl rfl (beq_ff H79)) rfl rfl (by kernel_rfl) (by kernel_rfl) (by kernel_rfl) rfl rfl ?_
                                refine TA.y (listed' := #[true, true, true, true, true, true, true, true, true, true, true, true, false, false, false]) 11 [0, 0, 0, 0] rfl (Y.load_el (us := [.int .i64 E70.Tenant, .int .i64 E70.Quota]) (u := .agg #[.int .i64 E70.Tenant, .int .i64 E70.Quota]) kk59 rfl (Can.own 2 rfl) (idx_get H71).2.2 rfl rfl rfl rfl rfl) (Gd.at 1 false 156 S72.1 rfl rfl rfl (beq_ff H79)) rfl rfl (by kernel_rfl) (by kernel_rfl) (by kernel_rfl) rfl rfl ?_
                                refine TA.y (listed' := #[true, true, true, true, true, true, true, true, true, true, true, true, true, false, false]) 12 [0, 0, 0, 0] rfl (Y.eqlA keq59 (EqA.int (EqA.int EqA.nil)) rfl rfl) (Gd.at 1 false 156 S72.1 rfl rfl rfl (beq_ff H79)) rfl rfl (by kernel_rfl) (by kernel_rfl) (by kernel_rfl) rfl rfl ?_
                                refine TA.y (listed' := #[true, true, true, true, true, true, true, true, true, true, true, true, true, true, false]) 13 [0, 0, 0, 0] rfl (Y.pick_f H79 rfl rfl) rfl rfl rfl (by kernel_rfl) (by kernel_rfl) (by kernel_rfl) rfl rfl ?_
                                refine TA.y (listed' := #[true, true, true, true, true, true, true, true, true, true, true, true, true, true, true]) 14 [0, 0, 0, 0] rfl (Y.assign rfl) rfl rfl rfl (by kernel_rfl) (by kernel_rfl) (by kernel_rfl) rfl rfl ?_
                                refine TA.nil (by kernel_rfl) ?_
                                exact TE.jb_go () [0, 0, 0, 0] ⟨rfl, rfl, rfl, rfl, rfl, rfl, rfl, rfl, rfl, trivial⟩ rfl
                            · refine TE.block_normal ?_
                              refine TE.next ?_
                              refine TW.region ?_
                              refine TO.y (Y.move rfl) rfl rfl rfl ?_
                              refine TO.y (Y.add rfl rfl) rfl rfl rfl ?_
                              refine TO.y (Y.assign rfl) rfl rfl rfl ?_
                              refine TO.nil ?_
                              exact TE.lp_go () [0, 0, 0, 0] ⟨rfl, rfl, rfl, rfl, rfl, rfl, rfl, rfl, rfl, trivial⟩ rfl
                          · refine TW.exit ?_
                            refine TE.then_exit ?_
                            refine TE.lp_exit ?_
                            refine TE.block_exit ?_
                            exact TE.jn_go () [0, 0, 0, 0] ⟨rfl, rfl, rfl, rfl, rfl, rfl, rfl, rfl, trivial⟩ rfl
                        · refine TE.next ?_
                          refine TW.seq ?_
                          refine TW.region ?_
                          refine TO.y (Y.move rfl) rfl rfl rfl ?_
                          refine TO.y (Y.not rfl) rfl rfl rfl ?_
                          refine TO.nil ?_
                          refine TE.next ?_
                          refine TW.cond rfl (fun H82 => ?_) (fun H82 => ?_)
                          · refine TW.seq ?_
                            refine TW.region ?_
                            refine TO.y (Y.assign rfl) rfl rfl rfl ?_
                            refine TO.nil ?_
                            refine TE.next ?_
                            refine TW.ret ?_
                            refine TE.block_ret ?_
                            refine TE.then_ret ?_
                            refine TE.lp_ret ?_
                            refine TE.block_ret ?_
                            refine TE.jn_done ?_
                            refine TE.then_ret ?_
                            exact TE.leaf fun _ _ hf_ hs_ => ret_any (rs := [.tmp 2]) (vs := [.bool false]) (.inl rfl) rfl ⟨rfl, trivial⟩ hf_ hs_ ⟨(), rfl, hs_.pulls [] rfl⟩
                          · refine TW.skip ?_
                            refine TE.block_normal ?_
                            refine TE.next ?_
                            refine TW.region ?_
                            refine TO.y (Y.move rfl) rfl rfl rfl ?_
                            refine TO.y (Y.add rfl rfl) rfl rfl rfl ?_
                            refine TO.y (Y.assign rfl) rfl rfl rfl ?_
                            refine TO.nil ?_
                            exact TE.lp_go () [0, 0, 0, 0] ⟨rfl, rfl, rfl, rfl, rfl, rfl, rfl, trivial⟩ rfl
                      · refine TW.exit ?_
                        refine TE.then_exit ?_
                        refine TE.lp_exit ?_
                        refine TE.block_exit ?_
                        exact TE.jn_go () [] ⟨rfl, rfl, trivial⟩ rfl
                  · refine TE.next ?_
                    refine TW.seq ?_
                    refine TW.region ?_
                    refine TO.y (Y.move rfl) rfl rfl rfl ?_
                    refine TO.bind fun R83 H84 => ?_
                    refine TO.ef (Ef.call (rest := []) [] (spec_DrawShareDrop_con code V_code0 R83 H84) kc29 rfl rfl ⟨(Base.can HB_V_code0), trivial⟩) rfl rfl rfl (fun Y85 => ?_)
                    refine TO.y (Y.move rfl) rfl rfl rfl ?_
                    refine TO.y (Y.extract rfl rfl) rfl rfl rfl ?_
                    refine TO.y (Y.extract rfl rfl) rfl rfl rfl ?_
                    refine TO.ef (Ef.alloc kz51 rfl) rfl rfl rfl (fun B86 => ?_)
                    refine TO.ef0 (Ef.store_box (us := [.int .i64 R83.1.Size, Y85]) (vs' := [.int .i64 R83.1.Size, Y85]) (is' := [.box B86 51 [.int .i64 R83.1.Size, Y85], .own Y85 (lc R83.1.List)]) 0 kk51 rfl rfl rfl (Cel.agg ⟨(One.plain rfl), (One.can (Can.own 1 rfl)), trivial⟩) rfl rfl rfl rfl) rfl rfl (fun _ => ?_)
                    refine TO.y (Y.assign rfl) rfl rfl rfl ?_
                    refine TO.nil ?_
                    refine TE.next ?_
                    refine TW.seq ?_
                    refine TW.region ?_
                    refine TO.y (Y.load_box (v := .agg #[.int .i64 R83.1.Size, Y85]) 0 kk51 rfl rfl rfl) rfl rfl rfl ?_
                    refine TO.y (Y.move rfl) rfl rfl rfl ?_
                    refine TO.bind fun R87 H88 => ?_
                    refine TO.ef (Ef.call (rest := [.box B86 51 [.int .i64 R83.1.Size, Y85], .own Y85 (lc R83.1.List)]) [0, 0] (impl_ShareDrop_con R83.1 R83.2 Y85 R87 H88) kc30 rfl rfl ⟨(Can.own 1 rfl), trivial⟩) rfl rfl rfl (fun Y89 => ?_)
                    refine TO.y (Y.move rfl) rfl rfl rfl ?_
                    refine TO.y (Y.extract rfl rfl) rfl rfl rfl ?_
                    refine TO.y (Y.extract rfl rfl) rfl rfl rfl ?_
                    refine TO.ef (Ef.alloc kz51 rfl) rfl rfl rfl (fun B90 => ?_)
                    refine TO.ef0 (Ef.store_box (us := [.int .i64 R87.1.Size, Y89]) (vs' := [.int .i64 R87.1.Size, Y89]) (is' := [.box B90 51 [.int .i64 R87.1.Size, Y89], .own Y89 (lc R87.1.List), .box B86 51 [.int .i64 R83.1.Size, Y85], .own Y85 (lc R83.1.List)]) 0 kk51 rfl rfl rfl (Cel.agg ⟨(One.plain rfl), (One.can (Can.own 1 rfl)), trivial⟩) rfl rfl rfl rfl) rfl rfl (fun _ => ?_)
                    refine TO.y (Y.assign rfl) rfl rfl rfl ?_
                    refine TO.nil ?_
                    refine TE.next ?_
                    refine TW.seq ?_
                    refine TW.region ?_
                    refine TO.y (Y.load_box (v := .agg #[.int .i64 R83.1.Size, Y85]) 2 kk51 rfl rfl rfl) rfl rfl rfl ?_
                    refine TO.y (Y.move rfl) rfl rfl rfl ?_
                    refine TO.bind fun R91 H92 => ?_
                    refine TO.ef (Ef.call (rest := [.box B90 51 [.int .i64 R87.1.Size, Y89], .own Y89 (lc R87.1.List), .box B86 51 [.int .i64 R83.1.Size, Y85], .own Y85 (lc R83.1.List)]) [0, 0, 0, 0] (spec_ShareDrop_con R83.1 R83.2 Y85 R91 H92) kc31 rfl rfl ⟨(Can.own 3 rfl), trivial⟩) rfl rfl rfl (fun Y93 => ?_)
                    refine TO.y (Y.move rfl) rfl rfl rfl ?_
                    refine TO.y (Y.extract rfl rfl) rfl rfl rfl ?_
                    refine TO.y (Y.extract rfl rfl) rfl rfl rfl ?_
                    refine TO.ef (Ef.alloc kz51 rfl) rfl rfl rfl (fun B94 => ?_)
                    refine TO.ef0 (Ef.store_box (us := [.int .i64 R91.1.Size, Y93]) (vs' := [.int .i64 R91.1.Size, Y93]) (is' := [.box B94 51 [.int .i64 R91.1.Size, Y93], .own Y93 (lc R91.1.List), .box B90 51 [.int .i64 R87.1.Size, Y89], .own Y89 (lc R87.1.List), .box B86 51 [.int .i64 R83.1.Size, Y85], .own Y85 (lc R83.1.List)]) 0 kk51 rfl rfl rfl (Cel.agg ⟨(One.plain rfl), (One.can (Can.own 1 rfl)), trivial⟩) rfl rfl rfl rfl) rfl rfl (fun _ => ?_)
                    refine TO.y (Y.assign rfl) rfl rfl rfl ?_
                    refine TO.nil ?_
                    refine TE.next ?_
                    refine TW.seq ?_
                    refine TW.joinBX (τ := Bool) (X := Unit) (fun T _ => [(2, .bool T)]) (fun _ _ => []) ?_ (fun T95 X96 => ?_)
                    · refine TW.draw (isH := [.box B94 51 [.int .i64 R91.1.Size, Y93], .own Y93 (lc R91.1.List), .box B90 51 [.int .i64 R87.1.Size, Y89], .own Y89 (lc R87.1.List), .box B86 51 [.int .i64 R83.1.Size, Y85], .own Y85 (lc R83.1.List)]) hMix ?_
                      refine TA.y (listed' := #[true, false, false, false, false, false, false, false, false, false, false, false, false, false, false, false, false, false, false, false, false, false]) 0 [0, 0, 0, 0, 0, 0] rfl (Y.move rfl) rfl rfl rfl (by kernel_rfl) (by kernel_rfl) (by kernel_rfl) rfl rfl ?_
                      refine TA.y (listed' := #[true, true, false, false, false, false, false, false, false, false, false, false, false, false, false, false, false, false, false, false, false, false]) 1 [0, 0, 0, 0, 0, 0] rfl (Y.move rfl) rfl rfl rfl (by kernel_rfl) (by kernel_rfl) (by kernel_rfl) rfl rfl ?_
                      refine TA.y (listed' := #[true, true, true, false, false, false, false, false, false, false, false, false, false, false, false, false, false, false, false, false, false, false]) 2 [0, 0, 0, 0, 0, 0] rfl (Y.eqb kb4 rfl rfl) rfl rfl rfl (by kernel_rfl) (by kernel_rfl) (by kernel_rfl) rfl rfl ?_
                      refine TA.y (listed' := #[true, true, true, true, false, false, false, false, false, false, false, false, false, false, false, false, false, false, false, false, false, false]) 3 [0, 0, 0, 0, 0, 0] rfl (Y.move rfl) rfl rfl rfl (by kernel_rfl) (by kernel_rfl) (by kernel_rfl) rfl rfl ?_
                      refine TA.ite (b := decide (R87.2 = R91.2)) (fun H97 => ?_) (fun H97 => ?_)
                      · refine TA.y (listed' := #[true, true, true, true, true, false, false, false, false, false, false, false, false, false, false, false, false, false, false, false, false, false]) 4 [0, 0, 0, 0, 0, 0] rfl (Y.move rfl) (Gd.at 3 true 191 (decide (R87.2 = R91.2)) rfl rfl rfl (beq_tt H97)) rfl rfl (by kernel_rfl) (by kernel_rfl) (by kernel_rfl) rfl rfl ?_
                        refine TA.y (listed' := #[true, true, true, true, true, true, false, false, false, false, false, false, false, false, false, false, false, false, false, false, false, false]) 5 [0, 0, 0, 0, 0, 0] rfl (Y.not rfl) (Gd.at 3 true 191 (decide (R87.2 = R91.2)) rfl rfl rfl (beq_tt H97)) rfl rfl (by kernel_rfl) (by kernel_rfl) (by kernel_rfl) rfl rfl ?_
                        refine TA.y (listed' := #[true, true, true, true, true, true, true, false, false, false, false, false, false, false, false, false, false, false, false, false, false, false]) 6 [0, 0, 0, 0, 0, 0] rfl (Y.move rfl) (Gd.at 3 true 191 (decide (R87.2 = R91.2)) rfl rfl rfl (beq_tt H97)) rfl rfl (by kernel_rfl) (by kernel_rfl) (by kernel_rfl) rfl rfl ?_
                        refine TA.ite (b := !R87.2) (fun H98 => ?_) (fun H98 => ?_)
                        · refine TA.off (listed' := #[true, true, true, true, true, true, true, true, false, false, false, false, false, false, false, false, false, false, false, false, false, false]) 7 [0, 0, 0, 0, 0, 0] rfl (Gd.at 6 false 194 (!R87.2) rfl rfl rfl (beq_tf H98)) rfl rfl (by kernel_rfl) (by kernel_rfl) (by kernel_rfl) rfl rfl ?_
                          refine TA.off (listed' := #[true, true, true, true, true, true, true, true, true, false, false, false, false, false, false, false, false, false, false, false, false, false]) 8 [0, 0, 0, 0, 0, 0] rfl (Gd.at 6 false 194 (!R87.2) rfl rfl rfl (beq_tf H98)) rfl rfl (by kernel_rfl) (by kernel_rfl) (by kernel_rfl) rfl rfl ?_
                          refine TA.off (listed' := #[true, true, true, true, true, true, true, true, true, true, false, false, false, false, false, false, false, false, false, false, false, false]) 9 [0, 0, 0, 0, 0, 0] rfl (Gd.at 6 false 194 (!R87.2) rfl rfl rfl (beq_tf H98)) rfl rfl (by kernel_rfl) (by kernel_rfl) (by kernel_rfl) rfl rfl ?_
                          refine TA.off (listed' := #[true, true, true, true, true, true, true, true, true, true, true, false, false, false, false, false, false, false, false, false, false, false]) 10 [0, 0, 0, 0, 0, 0] rfl (Gd.at 6 false 194 (!R87.2) rfl rfl rfl (beq_tf H98)) rfl rfl (by kernel_rfl) (by kernel_rfl) (by kernel_rfl) rfl rfl ?_
                          refine TA.off (listed' := #[true, true, true, true, true, true, true, true, true, true, true, true, false, false, false, false, false, false, false, false, false, false]) 11 [0, 0, 0, 0, 0, 0] rfl (Gd.at 6 false 194 (!R87.2) rfl rfl rfl (beq_tf H98)) rfl rfl (by kernel_rfl) (by kernel_rfl) (by kernel_rfl) rfl rfl ?_
                          refine TA.y (listed' := #[true, true, true, true, true, true, true, true, true, true, true, true, true, false, false, false, false, false, false, false, false, false]) 12 [0, 0, 0, 0, 0, 0] rfl (Y.pick_t H98 rfl rfl) (Gd.at 3 true 191 (decide (R87.2 = R91.2)) rfl rfl rfl (beq_tt H97)) rfl rfl (by kernel_rfl) (by kernel_rfl) (by kernel_rfl) rfl rfl ?_
                          refine TA.y (listed' := #[true, true, true, true, true, true, true, true, true, true, true, true, true, true, false, false, false, false, false, false, false, false]) 13 [0, 0, 0, 0, 0, 0] rfl (Y.pick_t H97 rfl rfl) rfl rfl rfl (by kernel_rfl) (by kernel_rfl) (by kernel_rfl) rfl rfl ?_
                          refine TA.y (listed' := #[true, true, true, true, true, true, true, true, true, true, true, true, true, true, true, false, false, false, false, false, false, false]) 14 [0, 0, 0, 0, 0, 0] rfl (Y.move rfl) rfl rfl rfl (by kernel_rfl) (by kernel_rfl) (by kernel_rfl) rfl rfl ?_
                          refine TA.y (listed' := #[true, true, true, true, true, true, true, true, true, true, true, true, true, true, true, true, false, false, false, false, false, false]) 15 [0, 0, 0, 0, 0, 0] rfl (Y.move rfl) (Gd.at 14 true 202 true rfl rfl rfl rfl) rfl rfl (by kernel_rfl) (by kernel_rfl) (by kernel_rfl) rfl rfl ?_
                          refine TA.y (listed' := #[true, true, true, true, true, true, true, true, true, true, true, true, true, true, true, true, false, true, false, false, false, false]) 17 [0, 0, 0, 0, 0, 0] rfl (Y.move rfl) (Gd.at 14 true 202 true rfl rfl rfl rfl) rfl rfl (by kernel_rfl) (by kernel_rfl) (by kernel_rfl) rfl rfl ?_
                          refine TA.bind fun R99 H100 => ?_
                          refine TA.one 16 (by kernel_rfl) ?_
                          refine TX.ef (listed' := #[true, true, true, true, true, true, true, true, true, true, true, true, true, true, true, true, true, true, false, false, false, false]) [0, 0, 0, 0, 0, 0] rfl (Ef.call (rest := [.box B94 51 [.int .i64 R91.1.Size, Y93], .own Y93 (lc R91.1.List), .box B90 51 [.int .i64 R87.1.Size, Y89], .own Y89 (lc R87.1.List), .box B86 51 [.int .i64 R83.1.Size, Y85], .own Y85 (lc R83.1.List)]) [0, 0, 0, 0, 0, 0] (impl_Need_con R5.2.2  R99 H100) kc28 rfl rfl trivial) (Gd.at 14 true 202 true rfl rfl rfl rfl) rfl rfl rfl (fun _ => rfl) (fun _ => ?_)
                          refine TA.bind fun R102 H103 => ?_
                          refine TA.one 18 (by kernel_rfl) ?_
                          refine TX.ef (listed' := #[true, true, true, true, true, true, true, true, true, true, true, true, true, true, true, true, true, true, true, false, false, false]) [0, 0, 0, 0, 0, 0] rfl (Ef.call (rest := [.box B94 51 [.int .i64 R91.1.Size, Y93], .own Y93 (lc R91.1.List), .box B90 51 [.int .i64 R87.1.Size, Y89], .own Y89 (lc R87.1.List), .box B86 51 [.int .i64 R83.1.Size, Y85], .own Y85 (lc R83.1.List)]) [0, 0, 0, 0, 0, 0] (spec_Need_con R5.2.2  R102 H103) kc27 rfl rfl trivial) (Gd.at 14 true 202 true rfl rfl rfl rfl) rfl rfl rfl (fun _ => rfl) (fun _ => ?_)
                          refine TA.y (listed' := #[true, true, true, true, true, true, true, true, true, true, true, true, true, true, true, true, true, true, true, true, false, false]) 19 [0, 0, 0, 0, 0, 0] rfl (Y.eql rfl rfl) (Gd.at 14 true 202 true rfl rfl rfl rfl) rfl rfl (by kernel_rfl) (by kernel_rfl) (by kernel_rfl) rfl rfl ?_
                          refine TA.y (listed' := #[true, true, true, true, true, true, true, true, true, true, true, true, true, true, true, true, true, true, true, true, true, false]) 20 [0, 0, 0, 0, 0, 0] rfl (Y.pick_t rfl rfl rfl) rfl rfl rfl (by kernel_rfl) (by kernel_rfl) (by kernel_rfl) rfl rfl ?_
                          refine TA.y (listed' := #[true, true, true, true, true, true, true, true, true, true, true, true, true, true, true, true, true, true, true, true, true, true]) 21 [0, 0, 0, 0, 0, 0] rfl (Y.assign rfl) rfl rfl rfl (by kernel_rfl) (by kernel_rfl) (by kernel_rfl) rfl rfl ?_
                          refine TA.nil (by kernel_rfl) ?_
                          exact TE.jb_go () [] ⟨rfl, trivial⟩ rfl
                        · refine TA.y (listed' := #[true, true, true, true, true, true, true, true, false, false, false, false, false, false, false, false, false, false, false, false, false, false]) 7 [0, 0, 0, 0, 0, 0] rfl (Y.load_box (v := .agg #[.int .i64 R87.1.Size, Y89]) 2 kk51 rfl rfl rfl) (Gd.at 6 false 194 (!R87.2) rfl rfl rfl (beq_ff H98)) rfl rfl (by kernel_rfl) (by kernel_rfl) (by kernel_rfl) rfl rfl ?_
                          refine TA.y (listed' := #[true, true, true, true, true, true, true, true, false, true, false, false, false, false, false, false, false, false, false, false, false, false]) 9 [0, 0, 0, 0, 0, 0] rfl (Y.load_box (v := .agg #[.int .i64 R83.1.Size, Y85]) 4 kk51 rfl rfl rfl) (Gd.at 6 false 194 (!R87.2) rfl rfl rfl (beq_ff H98)) rfl rfl (by kernel_rfl) (by kernel_rfl) (by kernel_rfl) rfl rfl ?_
                          refine TA.bind fun R105 H106 => ?_
                          refine TA.one 8 (by kernel_rfl) ?_
                          refine TX.ef (listed' := #[true, true, true, true, true, true, true, true, true, true, false, false, false, false, false, false, false, false, false, false, false, false]) [0, 0, 0, 0, 0, 0] rfl (Ef.call (rest := [.box B94 51 [.int .i64 R91.1.Size, Y93], .own Y93 (lc R91.1.List), .box B90 51 [.int .i64 R87.1.Size, Y89], .own Y89 (lc R87.1.List), .box B86 51 [.int .i64 R83.1.Size, Y85], .own Y85 (lc R83.1.List)]) [0, 0, 0, 0, 0, 0] (impl_ShareLeft_con R87.1 Y89 R105 H106) kc26 rfl rfl ⟨(Can.own 3 rfl), trivial⟩) (Gd.at 6 false 194 (!R87.2) rfl rfl rfl (beq_ff H98)) rfl rfl rfl (fun _ => rfl) (fun _ => ?_)
                          refine TA.bind fun R108 H109 => ?_
                          refine TA.one 10 (by kernel_rfl) ?_
                          refine TX.ef (listed' := #[true, true, true, true, true, true, true, true, true, true, true, false, false, false, false, false, false, false, false, false, false, false]) [0, 0, 0, 0, 0, 0] rfl (Ef.call (rest := [.box B94 51 [.int .i64 R91.1.Size, Y93], .own Y93 (lc R91.1.List), .box B90 51 [.int .i64 R87.1.Size, Y89], .own Y89 (lc R87.1.List), .box B86 51 [.int .i64 R83.1.Size, Y85], .own Y85 (lc R83.1.List)]) [0, 0, 0, 0, 0, 0] (impl_ShareLeft_con R83.1 Y85 R108 H109) kc26 rfl rfl ⟨(Can.own 5 rfl), trivial⟩) (Gd.at 6 false 194 (!R87.2) rfl rfl rfl (beq_ff H98)) rfl rfl rfl (fun _ => rfl) (fun _ => ?_)
                          refine TA.y (listed' := #[true, true, true, true, true, true, true, true, true, true, true, true, false, false, false, false, false, false, false, false, false, false]) 11 [0, 0, 0, 0, 0, 0] rfl (Y.geq rfl rfl) (Gd.at 6 false 194 (!R87.2) rfl rfl rfl (beq_ff H98)) rfl rfl (by kernel_rfl) (by kernel_rfl) (by kernel_rfl) rfl rfl ?_
                          refine TA.y (listed' := #[true, true, true, true, true, true, true, true, true, true, true, true, true, false, false, false, false, false, false, false, false, false]) 12 [0, 0, 0, 0, 0, 0] rfl (Y.pick_f H98 rfl rfl) (Gd.at 3 true 191 (decide (R87.2 = R91.2)) rfl rfl rfl (beq_tt H97)) rfl rfl (by kernel_rfl) (by kernel_rfl) (by kernel_rfl) rfl rfl ?_
                          refine TA.y (listed' := #[true, true, true, true, true, true, true, true, true, true, true, true, true, true, false, false, false, false, false, false, false, false]) 13 [0, 0, 0, 0, 0, 0] rfl (Y.pick_t H97 rfl rfl) rfl rfl rfl (by kernel_rfl) (by kernel_rfl) (by kernel_rfl) rfl rfl ?_
                          refine TA.y (listed' := #[true, true, true, true, true, true, true, true, true, true, true, true, true, true, true, false, false, false, false, false, false, false]) 14 [0, 0, 0, 0, 0, 0] rfl (Y.move rfl) rfl rfl rfl (by kernel_rfl) (by kernel_rfl) (by kernel_rfl) rfl rfl ?_
                          refine TA.ite (b := decide (R105 ≥ R108)) (fun H111 => ?_) (fun H111 => ?_)
                          · refine TA.y (listed' := #[true, true, true, true, true, true, true, true, true, true, true, true, true, true, true, true, false, false, false, false, false, false]) 15 [0, 0, 0, 0, 0, 0] rfl (Y.move rfl) (Gd.at 14 true 202 (decide (R105 ≥ R108)) rfl rfl rfl (beq_tt H111)) rfl rfl (by kernel_rfl) (by kernel_rfl) (by kernel_rfl) rfl rfl ?_
                            refine TA.y (listed' := #[true, true, true, true, true, true, true, true, true, true, true, true, true, true, true, true, false, true, false, false, false, false]) 17 [0, 0, 0, 0, 0, 0] rfl (Y.move rfl) (Gd.at 14 true 202 (decide (R105 ≥ R108)) rfl rfl rfl (beq_tt H111)) rfl rfl (by kernel_rfl) (by kernel_rfl) (by kernel_rfl) rfl rfl ?_
                            refine TA.bind fun R112 H113 => ?_
                            refine TA.one 16 (by kernel_rfl) ?_
                            refine TX.ef (listed' := #[true, true, true, true, true, true, true, true, true, true, true, true, true, true, true, true, true, true, false, false, false, false]) [0, 0, 0, 0, 0, 0] rfl (Ef.call (rest := [.box B94 51 [.int .i64 R91.1.Size, Y93], .own Y93 (lc R91.1.List), .box B90 51 [.int .i64 R87.1.Size, Y89], .own Y89 (lc R87.1.List), .box B86 51 [.int .i64 R83.1.Size, Y85], .own Y85 (lc R83.1.List)]) [0, 0, 0, 0, 0, 0] (impl_Need_con R5.2.2  R112 H113) kc28 rfl rfl trivial) (Gd.at 14 true 202 (decide (R105 ≥ R108)) rfl rfl rfl (beq_tt H111)) rfl rfl rfl (fun _ => rfl) (fun _ => ?_)
                            refine TA.bind fun R115 H116 => ?_
                            refine TA.one 18 (by kernel_rfl) ?_
                            refine TX.ef (listed' := #[true, true, true, true, true, true, true, true, true, true, true, true, true, true, true, true, true, true, true, false, false, false]) [0, 0, 0, 0, 0, 0] rfl (Ef.call (rest := [.box B94 51 [.int .i64 R91.1.Size, Y93], .own Y93 (lc R91.1.List), .box B90 51 [.int .i64 R87.1.Size, Y89], .own Y89 (lc R87.1.List), .box B86 51 [.int .i64 R83.1.Size, Y85], .own Y85 (lc R83.1.List)]) [0, 0, 0, 0, 0, 0] (spec_Need_con R5.2.2  R115 H116) kc27 rfl rfl trivial) (Gd.at 14 true 202 (decide (R105 ≥ R108)) rfl rfl rfl (beq_tt H111)) rfl rfl rfl (fun _ => rfl) (fun _ => ?_)
                            refine TA.y (listed' := #[true, true, true, true, true, true, true, true, true, true, true, true, true, true, true, true, true, true, true, true, false, false]) 19 [0, 0, 0, 0, 0, 0] rfl (Y.eql rfl rfl) (Gd.at 14 true 202 (decide (R105 ≥ R108)) rfl rfl rfl (beq_tt H111)) rfl rfl (by kernel_rfl) (by kernel_rfl) (by kernel_rfl) rfl rfl ?_
                            refine TA.y (listed' := #[true, true, true, true, true, true, true, true, true, true, true, true, true, true, true, true, true, true, true, true, true, false]) 20 [0, 0, 0, 0, 0, 0] rfl (Y.pick_t H111 rfl rfl) rfl rfl rfl (by kernel_rfl) (by kernel_rfl) (by kernel_rfl) rfl rfl ?_
                            refine TA.y (listed' := #[true, true, true, true, true, true, true, true, true, true, true, true, true, true, true, true, true, true, true, true, true, true]) 21 [0, 0, 0, 0, 0, 0] rfl (Y.assign rfl) rfl rfl rfl (by kernel_rfl) (by kernel_rfl) (by kernel_rfl) rfl rfl ?_
                            refine TA.nil (by kernel_rfl) ?_
                            exact TE.jb_go () [] ⟨rfl, trivial⟩ rfl
                          · refine TA.off (listed' := #[true, true, true, true, true, true, true, true, true, true, true, true, true, true, true, true, false, false, false, false, false, false]) 15 [0, 0, 0, 0, 0, 0] rfl (Gd.at 14 true 202 (decide (R105 ≥ R108)) rfl rfl rfl (beq_ft H111)) rfl rfl (by kernel_rfl) (by kernel_rfl) (by kernel_rfl) rfl rfl ?_
                            refine TA.off (listed' := #[true, true, true, true, true, true, true, true, true, true, true, true, true, true, true, true, true, false, false, false, false, false]) 16 [0, 0, 0, 0, 0, 0] rfl (Gd.at 14 true 202 (decide (R105 ≥ R108)) rfl rfl rfl (beq_ft H111)) rfl rfl (by kernel_rfl) (by kernel_rfl) (by kernel_rfl) rfl rfl ?_
                            refine TA.off (listed' := #[true, true, true, true, true, true, true, true, true, true, true, true, true, true, true, true, true, true, false, false, false, false]) 17 [0, 0, 0, 0, 0, 0] rfl (Gd.at 14 true 202 (decide (R105 ≥ R108)) rfl rfl rfl (beq_ft H111)) rfl rfl (by kernel_rfl) (by kernel_rfl) (by kernel_rfl) rfl rfl ?_
                            refine TA.off (listed' := #[true, true, true, true, true, true, true, true, true, true, true, true, true, true, true, true, true, true, true, false, false, false]) 18 [0, 0, 0, 0, 0, 0] rfl (Gd.at 14 true 202 (decide (R105 ≥ R108)) rfl rfl rfl (beq_ft H111)) rfl rfl (by kernel_rfl) (by kernel_rfl) (by kernel_rfl) rfl rfl ?_
                            refine TA.off (listed' := #[true, true, true, true, true, true, true, true, true, true, true, true, true, true, true, true, true, true, true, true, false, false]) 19 [0, 0, 0, 0, 0, 0] rfl (Gd.at 14 true 202 (decide (R105 ≥ R108)) rfl rfl rfl (beq_ft H111)) rfl rfl (by kernel_rfl) (by kernel_rfl) (by kernel_rfl) rfl rfl ?_
                            refine TA.y (listed' := #[true, true, true, true, true, true, true, true, true, true, true, true, true, true, true, true, true, true, true, true, true, false]) 20 [0, 0, 0, 0, 0, 0] rfl (Y.pick_f H111 rfl rfl) rfl rfl rfl (by kernel_rfl) (by kernel_rfl) (by kernel_rfl) rfl rfl ?_
                            refine TA.y (listed' := #[true, true, true, true, true, true, true, true, true, true, true, true, true, true, true, true, true, true, true, true, true, true]) 21 [0, 0, 0, 0, 0, 0] rfl (Y.assign rfl) rfl rfl rfl (by kernel_rfl) (by kernel_rfl) (by kernel_rfl) rfl rfl ?_
                            refine TA.nil (by kernel_rfl) ?_
                            exact TE.jb_go () [] ⟨rfl, trivial⟩ rfl
                      · refine TA.off (listed' := #[true, true, true, true, true, false, false, false, false, false, false, false, false, false, false, false, false, false, false, false, false, false]) 4 [0, 0, 0, 0, 0, 0] rfl (Gd.at 3 true 191 (decide (R87.2 = R91.2)) rfl rfl rfl (beq_ft H97)) rfl rfl (by kernel_rfl) (by kernel_rfl) (by kernel_rfl) rfl rfl ?_
                        refine TA.off (listed' := #[true, true, true, true, true, true, false, false, false, false, false, false, false, false, false, false, false, false, false, false, false, false]) 5 [0, 0, 0, 0, 0, 0] rfl (Gd.at 3 true 191 (decide (R87.2 = R91.2)) rfl rfl rfl (beq_ft H97)) rfl rfl (by kernel_rfl) (by kernel_rfl) (by kernel_rfl) rfl rfl ?_
                        refine TA.off (listed' := #[true, true, true, true, true, true, true, false, false, false, false, false, false, false, false, false, false, false, false, false, false, false]) 6 [0, 0, 0, 0, 0, 0] rfl (Gd.at 3 true 191 (decide (R87.2 = R91.2)) rfl rfl rfl (beq_ft H97)) rfl rfl (by kernel_rfl) (by kernel_rfl) (by kernel_rfl) rfl rfl ?_
                        refine TA.off (listed' := #[true, true, true, true, true, true, true, true, false, false, false, false, false, false, false, false, false, false, false, false, false, false]) 7 [0, 0, 0, 0, 0, 0] rfl (Gd.un 6 false 194 rfl rfl rfl) rfl rfl (by kernel_rfl) (by kernel_rfl) (by kernel_rfl) rfl rfl ?_
                        refine TA.off (listed' := #[true, true, true, true, true, true, true, true, true, false, false, false, false, false, false, false, false, false, false, false, false, false]) 8 [0, 0, 0, 0, 0, 0] rfl (Gd.un 6 false 194 rfl rfl rfl) rfl rfl (by kernel_rfl) (by kernel_rfl) (by kernel_rfl) rfl rfl ?_
                        refine TA.off (listed' := #[true, true, true, true, true, true, true, true, true, true, false, false, false, false, false, false, false, false, false, false, false, false]) 9 [0, 0, 0, 0, 0, 0] rfl (Gd.un 6 false 194 rfl rfl rfl) rfl rfl (by kernel_rfl) (by kernel_rfl) (by kernel_rfl) rfl rfl ?_
                        refine TA.off (listed' := #[true, true, true, true, true, true, true, true, true, true, true, false, false, false, false, false, false, false, false, false, false, false]) 10 [0, 0, 0, 0, 0, 0] rfl (Gd.un 6 false 194 rfl rfl rfl) rfl rfl (by kernel_rfl) (by kernel_rfl) (by kernel_rfl) rfl rfl ?_
                        refine TA.off (listed' := #[true, true, true, true, true, true, true, true, true, true, true, true, false, false, false, false, false, false, false, false, false, false]) 11 [0, 0, 0, 0, 0, 0] rfl (Gd.un 6 false 194 rfl rfl rfl) rfl rfl (by kernel_rfl) (by kernel_rfl) (by kernel_rfl) rfl rfl ?_
                        refine TA.off (listed' := #[true, true, true, true, true, true, true, true, true, true, true, true, true, false, false, false, false, false, false, false, false, false]) 12 [0, 0, 0, 0, 0, 0] rfl (Gd.at 3 true 191 (decide (R87.2 = R91.2)) rfl rfl rfl (beq_ft H97)) rfl rfl (by kernel_rfl) (by kernel_rfl) (by kernel_rfl) rfl rfl ?_
                        refine TA.y (listed' := #[true, true, true, true, true, true, true, true, true, true, true, true, true, true, false, false, false, false, false, false, false, false]) 13 [0, 0, 0, 0, 0, 0] rfl (Y.pick_f H97 rfl rfl) rfl rfl rfl (by kernel_rfl) (by kernel_rfl) (by kernel_rfl) rfl rfl ?_
                        refine TA.y (listed' := #[true, true, true, true, true, true, true, true, true, true, true, true, true, true, true, false, false, false, false, false, false, false]) 14 [0, 0, 0, 0, 0, 0] rfl (Y.move rfl) rfl rfl rfl (by kernel_rfl) (by kernel_rfl) (by kernel_rfl) rfl rfl ?_
                        refine TA.off (listed' := #[true, true, true, true, true, true, true, true, true, true, true, true, true, true, true, true, false, false, false, false, false, false]) 15 [0, 0, 0, 0, 0, 0] rfl (Gd.at 14 true 202 false rfl rfl rfl rfl) rfl rfl (by kernel_rfl) (by kernel_rfl) (by kernel_rfl) rfl rfl ?_
                        refine TA.off (listed' := #[true, true, true, true, true, true, true, true, true, true, true, true, true, true, true, true, true, false, false, false, false, false]) 16 [0, 0, 0, 0, 0, 0] rfl (Gd.at 14 true 202 false rfl rfl rfl rfl) rfl rfl (by kernel_rfl) (by kernel_rfl) (by kernel_rfl) rfl rfl ?_
                        refine TA.off (listed' := #[true, true, true, true, true, true, true, true, true, true, true, true, true, true, true, true, true, true, false, false, false, false]) 17 [0, 0, 0, 0, 0, 0] rfl (Gd.at 14 true 202 false rfl rfl rfl rfl) rfl rfl (by kernel_rfl) (by kernel_rfl) (by kernel_rfl) rfl rfl ?_
                        refine TA.off (listed' := #[true, true, true, true, true, true, true, true, true, true, true, true, true, true, true, true, true, true, true, false, false, false]) 18 [0, 0, 0, 0, 0, 0] rfl (Gd.at 14 true 202 false rfl rfl rfl rfl) rfl rfl (by kernel_rfl) (by kernel_rfl) (by kernel_rfl) rfl rfl ?_
                        refine TA.off (listed' := #[true, true, true, true, true, true, true, true, true, true, true, true, true, true, true, true, true, true, true, true, false, false]) 19 [0, 0, 0, 0, 0, 0] rfl (Gd.at 14 true 202 false rfl rfl rfl rfl) rfl rfl (by kernel_rfl) (by kernel_rfl) (by kernel_rfl) rfl rfl ?_
                        refine TA.y (listed' := #[true, true, true, true, true, true, true, true, true, true, true, true, true, true, true, true, true, true, true, true, true, false]) 20 [0, 0, 0, 0, 0, 0] rfl (Y.pick_f rfl rfl rfl) rfl rfl rfl (by kernel_rfl) (by kernel_rfl) (by kernel_rfl) rfl rfl ?_
                        refine TA.y (listed' := #[true, true, true, true, true, true, true, true, true, true, true, true, true, true, true, true, true, true, true, true, true, true]) 21 [0, 0, 0, 0, 0, 0] rfl (Y.assign rfl) rfl rfl rfl (by kernel_rfl) (by kernel_rfl) (by kernel_rfl) rfl rfl ?_
                        refine TA.nil (by kernel_rfl) ?_
                        exact TE.jb_go () [] ⟨rfl, trivial⟩ rfl
                    · refine TE.next ?_
                      refine TW.ret ?_
                      exact TE.leaf fun _ _ hf_ hs_ => ret_any (rs := [.tmp 2]) (vs := [.bool T95]) (.inl rfl) rfl ⟨rfl, trivial⟩ hf_ hs_ ⟨(), rfl, hs_.pulls [] rfl⟩

end Go.Proofs.Ytahennbogdbnmaa
