/-
  The functions that a law reaches, each as a pure function, with the proof that the program computes it, and the step from a pure law to the given statement. Conditions: none.
-/
import Derived.Test.YtamgnhkgcggbhabN4
set_option linter.unusedVariables false
set_option maxRecDepth 100000
set_option maxHeartbeats 4000000
namespace Go.Proofs.Ytamgnhkgcggbhab
open Go Sl

/-- loop.example/g00950/laws.FnExactStoreNew -/
noncomputable def laws_FnExactStoreNew (aSecret : List UInt8) (aMaster : List UInt8) (aSize : Int) : Option Bool :=
  if (decide (((aSecret.length : Nat) : Int) > (1048576 : Int))) = true then (some true)
  else (if (decide (((aMaster.length : Nat) : Int) > (1048576 : Int))) = true then (some true)
  else ((spec_StoreNew aSecret aMaster aSize).bind fun R3 =>
  (impl_StoreNew aSecret aMaster aSize).bind fun R7 =>
  ((laws_eqStore R7.1 R3.1).bind fun R13 =>
  if (!R13) = true then (some true)
  else (some (!(decide (R7.2 = R3.2))))).bind (fun (T11 : Bool) =>
  if T11 = true then (some false)
  else ((laws_markStore R7.1 (1 : Int)).bind fun R18 =>
  (laws_heldStore ({ Secret := R7.1.Secret, Keys := { Master := R7.1.Keys.Master, Slots := R18.2.1, Wiped := R7.1.Keys.Wiped : KeyDev }, Shares := { Size := R7.1.Shares.Size, List := R18.2.2.1 : Shares }, Tens := R18.2.2.2.1, Rows := R18.2.2.2.2.1, Hist := R18.2.2.2.2.2, Boot := R7.1.Boot : Store }) (1 : Int)).bind fun R21 =>
  if (decide (R21 < (0 : Int))) = true then (some false)
  else (if (!(decide (R21 = R18.1))) = true then (some false)
  else (((laws_eqStore R7.1 R3.1).bind fun R30 =>
  if (!R30) = true then (some true)
  else (some (!(decide (R7.2 = R3.2))))).bind (fun (T28 : Bool) =>
  if T28 = true then (some false)
  else (if (decide (R21 < (0 : Int))) = true then (some false)
  else (if (!(decide (R21 = R18.1))) = true then (some false)
  else (some true))))))))))

theorem laws_FnExactStoreNew_con (aSecret : List UInt8) (aMaster : List UInt8) (aSize : Int)  (r : Bool) (hm : laws_FnExactStoreNew aSecret aMaster aSize = some r) :
    Con Try.prog 5 [strV aSecret, strV aMaster, .int .i64 aSize] [] [] (fun _ : Unit => .bool r) (fun _ => []) := by
  refine Con.intro (args := [strV aSecret, strV aMaster, .int .i64 aSize]) (n := 79) (val := fun r (_ : Unit) => .bool r) (post := fun _ _ => []) (m := laws_FnExactStoreNew aSecret aMaster aSize) Try.func5 rfl rfl rfl hm ?_
  intro w S _
  unfold laws_FnExactStoreNew
  refine TW.seq ?_
  refine TW.region ?_
  refine TO.y (Y.assign rfl) rfl rfl rfl ?_
  refine TO.nil ?_
  refine TE.next ?_
  refine TW.seq ?_
  refine TW.seq ?_
  refine TW.region ?_
  refine TO.y (Y.move rfl) rfl rfl rfl ?_
  refine TO.y (Y.slen ks9 rfl) rfl rfl rfl ?_
  refine TO.y (Y.gtr rfl rfl) rfl rfl rfl ?_
  refine TO.nil ?_
  refine TE.next ?_
  refine TW.cond rfl (fun H1 => ?_) (fun H1 => ?_)
  · refine TW.seq ?_
    refine TW.region ?_
    refine TO.y (Y.assign rfl) rfl rfl rfl ?_
    refine TO.nil ?_
    refine TE.next ?_
    refine TW.ret ?_
    refine TE.then_ret ?_
    exact TE.leaf fun _ _ hf_ hs_ => ret_any (rs := [.tmp 6]) (vs := [.bool true]) (.inl rfl) rfl ⟨rfl, trivial⟩ hf_ hs_ ⟨(), rfl, hs_.pulls [] rfl⟩
  · refine TW.skip ?_
    refine TE.next ?_
    refine TW.seq ?_
    refine TW.seq ?_
    refine TW.region ?_
    refine TO.y (Y.move rfl) rfl rfl rfl ?_
    refine TO.y (Y.slen ks9 rfl) rfl rfl rfl ?_
    refine TO.y (Y.gtr rfl rfl) rfl rfl rfl ?_
    refine TO.nil ?_
    refine TE.next ?_
    refine TW.cond rfl (fun H2 => ?_) (fun H2 => ?_)
    · refine TW.seq ?_
      refine TW.region ?_
      refine TO.y (Y.assign rfl) rfl rfl rfl ?_
      refine TO.nil ?_
      refine TE.next ?_
      refine TW.ret ?_
      refine TE.then_ret ?_
      exact TE.leaf fun _ _ hf_ hs_ => ret_any (rs := [.tmp 6]) (vs := [.bool true]) (.inl rfl) rfl ⟨rfl, trivial⟩ hf_ hs_ ⟨(), rfl, hs_.pulls [] rfl⟩
    · refine TW.skip ?_
      refine TE.next ?_
      refine TW.seq ?_
      refine TW.region ?_
      refine TO.y (Y.move rfl) rfl rfl rfl ?_
      refine TO.y (Y.move rfl) rfl rfl rfl ?_
      refine TO.y (Y.move rfl) rfl rfl rfl ?_
      refine TO.bind fun R3 H4 => ?_
      refine TO.ef (Ef.call (rest := []) [] (spec_StoreNew_con aSecret aMaster aSize  R3 H4) kc25 rfl rfl trivial) rfl rfl rfl (fun Y5 => ?_)
      refine TO.y (Y.move rfl) rfl rfl rfl ?_
      refine TO.y (Y.extract rfl rfl) rfl rfl rfl ?_
      refine TO.y (Y.extract rfl rfl) rfl rfl rfl ?_
      refine TO.ef (Ef.alloc kz55 rfl) rfl rfl rfl (fun B6 => ?_)
      refine TO.ef0 (Ef.store_box (us := [strV R3.1.Secret, strV R3.1.Keys.Master, Y5.1, .int .i64 R3.1.Keys.Wiped, .int .i64 R3.1.Shares.Size, Y5.2.1, Y5.2.2.1, Y5.2.2.2.1, Y5.2.2.2.2, .int .i64 R3.1.Boot]) (vs' := [strV R3.1.Secret, strV R3.1.Keys.Master, Y5.1, .int .i64 R3.1.Keys.Wiped, .int .i64 R3.1.Shares.Size, Y5.2.1, Y5.2.2.1, Y5.2.2.2.1, Y5.2.2.2.2, .int .i64 R3.1.Boot]) (is' := [.box B6 55 [strV R3.1.Secret, strV R3.1.Keys.Master, Y5.1, .int .i64 R3.1.Keys.Wiped, .int .i64 R3.1.Shares.Size, Y5.2.1, Y5.2.2.1, Y5.2.2.2.1, Y5.2.2.2.2, .int .i64 R3.1.Boot], .own Y5.1 (lc R3.1.Keys.Slots), .own Y5.2.1 (lc R3.1.Shares.List), .own Y5.2.2.1 (lc R3.1.Tens), .own Y5.2.2.2.1 (lc R3.1.Rows), .own Y5.2.2.2.2 (lc R3.1.Hist)]) 0 kk55 rfl rfl rfl (Cel.agg ⟨(One.plain rfl), (One.plain rfl), (One.can (Can.own 1 rfl)), (One.plain rfl), (One.plain rfl), (One.can (Can.own 2 rfl)), (One.can (Can.own 3 rfl)), (One.can (Can.own 4 rfl)), (One.can (Can.own 5 rfl)), (One.plain rfl), trivial⟩) rfl rfl rfl rfl) rfl rfl (fun _ => ?_)
      refine TO.y (Y.assign rfl) rfl rfl rfl ?_
      refine TO.nil ?_
      refine TE.next ?_
      refine TW.seq ?_
      refine TW.region ?_
      refine TO.y (Y.move rfl) rfl rfl rfl ?_
      refine TO.y (Y.move rfl) rfl rfl rfl ?_
      refine TO.y (Y.move rfl) rfl rfl rfl ?_
      refine TO.bind fun R7 H8 => ?_
      refine TO.ef (Ef.call (rest := [.box B6 55 [strV R3.1.Secret, strV R3.1.Keys.Master, Y5.1, .int .i64 R3.1.Keys.Wiped, .int .i64 R3.1.Shares.Size, Y5.2.1, Y5.2.2.1, Y5.2.2.2.1, Y5.2.2.2.2, .int .i64 R3.1.Boot], .own Y5.1 (lc R3.1.Keys.Slots), .own Y5.2.1 (lc R3.1.Shares.List), .own Y5.2.2.1 (lc R3.1.Tens), .own Y5.2.2.2.1 (lc R3.1.Rows), .own Y5.2.2.2.2 (lc R3.1.Hist)]) [0, 0, 0, 0, 0, 0] (impl_StoreNew_con aSecret aMaster aSize  R7 H8) kc26 rfl rfl trivial) rfl rfl rfl (fun Y9 => ?_)
      refine TO.y (Y.move rfl) rfl rfl rfl ?_
      refine TO.y (Y.extract rfl rfl) rfl rfl rfl ?_
      refine TO.y (Y.extract rfl rfl) rfl rfl rfl ?_
      refine TO.ef (Ef.alloc kz55 rfl) rfl rfl rfl (fun B10 => ?_)
      refine TO.ef0 (Ef.store_box (us := [strV R7.1.Secret, strV R7.1.Keys.Master, Y9.1, .int .i64 R7.1.Keys.Wiped, .int .i64 R7.1.Shares.Size, Y9.2.1, Y9.2.2.1, Y9.2.2.2.1, Y9.2.2.2.2, .int .i64 R7.1.Boot]) (vs' := [strV R7.1.Secret, strV R7.1.Keys.Master, Y9.1, .int .i64 R7.1.Keys.Wiped, .int .i64 R7.1.Shares.Size, Y9.2.1, Y9.2.2.1, Y9.2.2.2.1, Y9.2.2.2.2, .int .i64 R7.1.Boot]) (is' := [.box B10 55 [strV R7.1.Secret, strV R7.1.Keys.Master, Y9.1, .int .i64 R7.1.Keys.Wiped, .int .i64 R7.1.Shares.Size, Y9.2.1, Y9.2.2.1, Y9.2.2.2.1, Y9.2.2.2.2, .int .i64 R7.1.Boot], .own Y9.1 (lc R7.1.Keys.Slots), .own Y9.2.1 (lc R7.1.Shares.List), .own Y9.2.2.1 (lc R7.1.Tens), .own Y9.2.2.2.1 (lc R7.1.Rows), .own Y9.2.2.2.2 (lc R7.1.Hist), .box B6 55 [strV R3.1.Secret, strV R3.1.Keys.Master, Y5.1, .int .i64 R3.1.Keys.Wiped, .int .i64 R3.1.Shares.Size, Y5.2.1, Y5.2.2.1, Y5.2.2.2.1, Y5.2.2.2.2, .int .i64 R3.1.Boot], .own Y5.1 (lc R3.1.Keys.Slots), .own Y5.2.1 (lc R3.1.Shares.List), .own Y5.2.2.1 (lc R3.1.Tens), .own Y5.2.2.2.1 (lc R3.1.Rows), .own Y5.2.2.2.2 (lc R3.1.Hist)]) 0 kk55 rfl rfl rfl (Cel.agg ⟨(One.plain rfl), (One.plain rfl), (One.can (Can.own 1 rfl)), (One.plain rfl), (One.plain rfl), (One.can (Can.own 2 rfl)), (One.can (Can.own 3 rfl)), (One.can (Can.own 4 rfl)), (One.can (Can.own 5 rfl)), (One.plain rfl), trivial⟩) rfl rfl rfl rfl) rfl rfl (fun _ => ?_)
      refine TO.y (Y.assign rfl) rfl rfl rfl ?_
      refine TO.nil ?_
      refine TE.next ?_
      refine TW.seq ?_
      refine TW.seq ?_
      refine TW.joinBX (τ := Bool) (X := Unit) (fun T _ => [(0, strV aSecret), (1, strV aMaster), (2, .int .i64 aSize), (7, .pointer (some ⟨B6, 0, none⟩)), (8, .bool R3.2), (9, .pointer (some ⟨B10, 0, none⟩)), (43, .bool T)]) (fun _ _ => [.box B6 55 [strV R3.1.Secret, strV R3.1.Keys.Master, Y5.1, .int .i64 R3.1.Keys.Wiped, .int .i64 R3.1.Shares.Size, Y5.2.1, Y5.2.2.1, Y5.2.2.2.1, Y5.2.2.2.2, .int .i64 R3.1.Boot], .box B10 55 [strV R7.1.Secret, strV R7.1.Keys.Master, Y9.1, .int .i64 R7.1.Keys.Wiped, .int .i64 R7.1.Shares.Size, Y9.2.1, Y9.2.2.1, Y9.2.2.2.1, Y9.2.2.2.2, .int .i64 R7.1.Boot], .own Y5.1 (lc R3.1.Keys.Slots), .own Y5.2.1 (lc R3.1.Shares.List), .own Y5.2.2.1 (lc R3.1.Tens), .own Y5.2.2.2.1 (lc R3.1.Rows), .own Y5.2.2.2.2 (lc R3.1.Hist), .own Y9.1 (lc R7.1.Keys.Slots), .own Y9.2.1 (lc R7.1.Shares.List), .own Y9.2.2.1 (lc R7.1.Tens), .own Y9.2.2.2.1 (lc R7.1.Rows), .own Y9.2.2.2.2 (lc R7.1.Hist)]) ?_ (fun T11 X12 => ?_)
      · refine TW.region ?_
        refine TO.y (Y.load_box (v := .agg #[strV R7.1.Secret, strV R7.1.Keys.Master, Y9.1, .int .i64 R7.1.Keys.Wiped, .int .i64 R7.1.Shares.Size, Y9.2.1, Y9.2.2.1, Y9.2.2.2.1, Y9.2.2.2.2, .int .i64 R7.1.Boot]) 0 kk55 rfl rfl rfl) rfl rfl rfl ?_
        refine TO.y (Y.load_box (v := .agg #[strV R3.1.Secret, strV R3.1.Keys.Master, Y5.1, .int .i64 R3.1.Keys.Wiped, .int .i64 R3.1.Shares.Size, Y5.2.1, Y5.2.2.1, Y5.2.2.2.1, Y5.2.2.2.2, .int .i64 R3.1.Boot]) 6 kk55 rfl rfl rfl) rfl rfl rfl ?_
        refine TO.bind fun R13 H14 => ?_
        refine TO.ef (Ef.call (rest := [.box B10 55 [strV R7.1.Secret, strV R7.1.Keys.Master, Y9.1, .int .i64 R7.1.Keys.Wiped, .int .i64 R7.1.Shares.Size, Y9.2.1, Y9.2.2.1, Y9.2.2.2.1, Y9.2.2.2.2, .int .i64 R7.1.Boot], .own Y9.1 (lc R7.1.Keys.Slots), .own Y9.2.1 (lc R7.1.Shares.List), .own Y9.2.2.1 (lc R7.1.Tens), .own Y9.2.2.2.1 (lc R7.1.Rows), .own Y9.2.2.2.2 (lc R7.1.Hist), .box B6 55 [strV R3.1.Secret, strV R3.1.Keys.Master, Y5.1, .int .i64 R3.1.Keys.Wiped, .int .i64 R3.1.Shares.Size, Y5.2.1, Y5.2.2.1, Y5.2.2.2.1, Y5.2.2.2.2, .int .i64 R3.1.Boot], .own Y5.1 (lc R3.1.Keys.Slots), .own Y5.2.1 (lc R3.1.Shares.List), .own Y5.2.2.1 (lc R3.1.Tens), .own Y5.2.2.2.1 (lc R3.1.Rows), .own Y5.2.2.2.2 (lc R3.1.Hist)]) [0, 0, 0, 0, 0, 0, 0, 0, 0, 0, 0, 0] (laws_eqStore_con R7.1 R3.1 Y9.1 Y9.2.1 Y9.2.2.1 Y9.2.2.2.1 Y9.2.2.2.2 Y5.1 Y5.2.1 Y5.2.2.1 Y5.2.2.2.1 Y5.2.2.2.2 R13 H14) kc27 rfl rfl ⟨(Can.own 1 rfl), (Can.own 2 rfl), (Can.own 3 rfl), (Can.own 4 rfl), (Can.own 5 rfl), (Can.own 7 rfl), (Can.own 8 rfl), (Can.own 9 rfl), (Can.own 10 rfl), (Can.own 11 rfl), trivial⟩) rfl rfl rfl (fun _ => ?_)
        refine TO.y (Y.not rfl) rfl rfl rfl ?_
        refine TO.y (Y.move rfl) rfl rfl rfl ?_
        refine TO.ite (b := !R13) (fun H16 => ?_) (fun H16 => ?_)
        · refine TO.off (Gd.at 4 false 39 (!R13) rfl rfl rfl (beq_tf H16)) rfl rfl ?_
          refine TO.off (Gd.at 4 false 39 (!R13) rfl rfl rfl (beq_tf H16)) rfl rfl ?_
          refine TO.off (Gd.at 4 false 39 (!R13) rfl rfl rfl (beq_tf H16)) rfl rfl ?_
          refine TO.y (Y.pick_t H16 rfl rfl) rfl rfl rfl ?_
          refine TO.nil ?_
          exact TE.jb_go () [6, 0, 5, 5, 5, 5, 5, 0, 0, 0, 0, 0] ⟨rfl, rfl, rfl, rfl, rfl, rfl, rfl, trivial⟩ rfl
        · refine TO.y (Y.move rfl) (Gd.at 4 false 39 (!R13) rfl rfl rfl (beq_ff H16)) rfl rfl ?_
          refine TO.y (Y.move rfl) (Gd.at 4 false 39 (!R13) rfl rfl rfl (beq_ff H16)) rfl rfl ?_
          refine TO.y (Y.neb kb4 rfl rfl) (Gd.at 4 false 39 (!R13) rfl rfl rfl (beq_ff H16)) rfl rfl ?_
          refine TO.y (Y.pick_f H16 rfl rfl) rfl rfl rfl ?_
          refine TO.nil ?_
          exact TE.jb_go () [6, 0, 5, 5, 5, 5, 5, 0, 0, 0, 0, 0] ⟨rfl, rfl, rfl, rfl, rfl, rfl, rfl, trivial⟩ rfl
      · refine TE.next ?_
        refine TW.cond rfl (fun H17 => ?_) (fun H17 => ?_)
        · refine TW.seq ?_
          refine TW.region ?_
          refine TO.y (Y.assign rfl) rfl rfl rfl ?_
          refine TO.nil ?_
          refine TE.next ?_
          refine TW.ret ?_
          refine TE.then_ret ?_
          exact TE.leaf fun _ _ hf_ hs_ => ret_any (rs := [.tmp 6]) (vs := [.bool false]) (.inl rfl) rfl ⟨rfl, trivial⟩ hf_ hs_ ⟨(), rfl, hs_.pulls [] rfl⟩
        · refine TW.skip ?_
          refine TE.next ?_
          refine TW.seq ?_
          refine TW.region ?_
          refine TO.y (Y.assign rfl) rfl rfl rfl ?_
          refine TO.nil ?_
          refine TE.next ?_
          refine TW.seq ?_
          refine TW.region ?_
          refine TO.y (Y.load_box (v := .agg #[strV R7.1.Secret, strV R7.1.Keys.Master, Y9.1, .int .i64 R7.1.Keys.Wiped, .int .i64 R7.1.Shares.Size, Y9.2.1, Y9.2.2.1, Y9.2.2.2.1, Y9.2.2.2.2, .int .i64 R7.1.Boot]) 1 kk55 rfl rfl rfl) rfl rfl rfl ?_
          refine TO.y (Y.move rfl) rfl rfl rfl ?_
          refine TO.bind fun R18 H19 => ?_
          refine TO.ef (Ef.call (rest := [.box B6 55 [strV R3.1.Secret, strV R3.1.Keys.Master, Y5.1, .int .i64 R3.1.Keys.Wiped, .int .i64 R3.1.Shares.Size, Y5.2.1, Y5.2.2.1, Y5.2.2.2.1, Y5.2.2.2.2, .int .i64 R3.1.Boot], .box B10 55 [strV R7.1.Secret, strV R7.1.Keys.Master, Y9.1, .int .i64 R7.1.Keys.Wiped, .int .i64 R7.1.Shares.Size, Y9.2.1, Y9.2.2.1, Y9.2.2.2.1, Y9.2.2.2.2, .int .i64 R7.1.Boot], .own Y5.1 (lc R3.1.Keys.Slots), .own Y5.2.1 (lc R3.1.Shares.List), .own Y5.2.2.1 (lc R3.1.Tens), .own Y5.2.2.2.1 (lc R3.1.Rows), .own Y5.2.2.2.2 (lc R3.1.Hist)]) [7, 7, 7, 7, 7, 0, 0, 0, 0, 0, 0, 0] (laws_markStore_con R7.1 (1 : Int) Y9.1 Y9.2.1 Y9.2.2.1 Y9.2.2.2.1 Y9.2.2.2.2 R18 H19) kc28 rfl rfl trivial) rfl rfl rfl (fun _ => ?_)
          refine TO.y (Y.assign rfl) rfl rfl rfl ?_
          refine TO.nil ?_
          refine TE.next ?_
          refine TW.seq ?_
          refine TW.region ?_
          refine TO.y (Y.assign rfl) rfl rfl rfl ?_
          refine TO.nil ?_
          refine TE.next ?_
          refine TW.seq ?_
          refine TW.region ?_
          refine TO.y (Y.load_box (v := .agg #[strV R7.1.Secret, strV R7.1.Keys.Master, Y9.1, .int .i64 R7.1.Keys.Wiped, .int .i64 R7.1.Shares.Size, Y9.2.1, Y9.2.2.1, Y9.2.2.2.1, Y9.2.2.2.2, .int .i64 R7.1.Boot]) 6 kk55 rfl rfl rfl) rfl rfl rfl ?_
          refine TO.y (Y.move rfl) rfl rfl rfl ?_
          refine TO.bind fun R21 H22 => ?_
          refine TO.ef (Ef.call (rest := [.own Y9.1 (lc R18.2.1), .own Y9.2.1 (lc R18.2.2.1), .own Y9.2.2.1 (lc R18.2.2.2.1), .own Y9.2.2.2.1 (lc R18.2.2.2.2.1), .own Y9.2.2.2.2 (lc R18.2.2.2.2.2), .box B6 55 [strV R3.1.Secret, strV R3.1.Keys.Master, Y5.1, .int .i64 R3.1.Keys.Wiped, .int .i64 R3.1.Shares.Size, Y5.2.1, Y5.2.2.1, Y5.2.2.2.1, Y5.2.2.2.2, .int .i64 R3.1.Boot], .box B10 55 [strV R7.1.Secret, strV R7.1.Keys.Master, Y9.1, .int .i64 R7.1.Keys.Wiped, .int .i64 R7.1.Shares.Size, Y9.2.1, Y9.2.2.1, Y9.2.2.2.1, Y9.2.2.2.2, .int .i64 R7.1.Boot], .own Y5.1 (lc R3.1.Keys.Slots), .own Y5.2.1 (lc R3.1.Shares.List), .own Y5.2.2.1 (lc R3.1.Tens), .own Y5.2.2.2.1 (lc R3.1.Rows), .own Y5.2.2.2.2 (lc R3.1.Hist)]) [0, 0, 0, 0, 0, 0, 0, 0, 0, 0, 0, 0] (laws_heldStore_con ({ Secret := R7.1.Secret, Keys := { Master := R7.1.Keys.Master, Slots := R18.2.1, Wiped := R7.1.Keys.Wiped : KeyDev }, Shares := { Size := R7.1.Shares.Size, List := R18.2.2.1 : Shares }, Tens := R18.2.2.2.1, Rows := R18.2.2.2.2.1, Hist := R18.2.2.2.2.2, Boot := R7.1.Boot : Store }) (1 : Int) Y9.1 Y9.2.1 Y9.2.2.1 Y9.2.2.2.1 Y9.2.2.2.2 R21 H22) kc29 rfl rfl ⟨(Can.own 0 rfl), (Can.own 1 rfl), (Can.own 2 rfl), (Can.own 3 rfl), (Can.own 4 rfl), trivial⟩) rfl rfl rfl (fun _ => ?_)
          refine TO.y (Y.assign rfl) rfl rfl rfl ?_
          refine TO.nil ?_
          refine TE.next ?_
          refine TW.seq ?_
          refine TW.seq ?_
          refine TW.region ?_
          refine TO.y (Y.move rfl) rfl rfl rfl ?_
          refine TO.y (Y.lss rfl rfl) rfl rfl rfl ?_
          refine TO.nil ?_
          refine TE.next ?_
          refine TW.cond rfl (fun H24 => ?_) (fun H24 => ?_)
          · refine TW.seq ?_
            refine TW.region ?_
            refine TO.y (Y.assign rfl) rfl rfl rfl ?_
            refine TO.nil ?_
            refine TE.next ?_
            refine TW.ret ?_
            refine TE.then_ret ?_
            exact TE.leaf fun _ _ hf_ hs_ => ret_any (rs := [.tmp 6]) (vs := [.bool false]) (.inl rfl) rfl ⟨rfl, trivial⟩ hf_ hs_ ⟨(), rfl, hs_.pulls [] rfl⟩
          · refine TW.skip ?_
            refine TE.next ?_
            refine TW.seq ?_
            refine TW.seq ?_
            refine TW.region ?_
            refine TO.y (Y.move rfl) rfl rfl rfl ?_
            refine TO.y (Y.move rfl) rfl rfl rfl ?_
            refine TO.y (Y.neq rfl rfl) rfl rfl rfl ?_
            refine TO.nil ?_
            refine TE.next ?_
            refine TW.cond rfl (fun H25 => ?_) (fun H25 => ?_)
            · refine TW.seq ?_
              refine TW.region ?_
              refine TO.y (Y.assign rfl) rfl rfl rfl ?_
              refine TO.nil ?_
              refine TE.next ?_
              refine TW.ret ?_
              refine TE.then_ret ?_
              exact TE.leaf fun _ _ hf_ hs_ => ret_any (rs := [.tmp 6]) (vs := [.bool false]) (.inl rfl) rfl ⟨rfl, trivial⟩ hf_ hs_ ⟨(), rfl, hs_.pulls [] rfl⟩
            · refine TW.skip ?_
              refine TE.next ?_
              refine TW.seq ?_
              refine TW.region ?_
              refine TO.y (Y.move rfl) rfl rfl rfl ?_
              refine TO.y (Y.move rfl) rfl rfl rfl ?_
              refine TO.y (Y.move rfl) rfl rfl rfl ?_
              refine TO.ef (Ef.call (rest := [.own Y9.1 (lc R18.2.1), .own Y9.2.1 (lc R18.2.2.1), .own Y9.2.2.1 (lc R18.2.2.2.1), .own Y9.2.2.2.1 (lc R18.2.2.2.2.1), .own Y9.2.2.2.2 (lc R18.2.2.2.2.2), .box B6 55 [strV R3.1.Secret, strV R3.1.Keys.Master, Y5.1, .int .i64 R3.1.Keys.Wiped, .int .i64 R3.1.Shares.Size, Y5.2.1, Y5.2.2.1, Y5.2.2.2.1, Y5.2.2.2.2, .int .i64 R3.1.Boot], .box B10 55 [strV R7.1.Secret, strV R7.1.Keys.Master, Y9.1, .int .i64 R7.1.Keys.Wiped, .int .i64 R7.1.Shares.Size, Y9.2.1, Y9.2.2.1, Y9.2.2.2.1, Y9.2.2.2.2, .int .i64 R7.1.Boot], .own Y5.1 (lc R3.1.Keys.Slots), .own Y5.2.1 (lc R3.1.Shares.List), .own Y5.2.2.1 (lc R3.1.Tens), .own Y5.2.2.2.1 (lc R3.1.Rows), .own Y5.2.2.2.2 (lc R3.1.Hist)]) [0, 0, 0, 0, 0, 0, 0, 0, 0, 0, 0, 0] (impl_StoreNew_con aSecret aMaster aSize  R7 H8) kc26 rfl rfl trivial) rfl rfl rfl (fun Y26 => ?_)
              refine TO.y (Y.move rfl) rfl rfl rfl ?_
              refine TO.y (Y.extract rfl rfl) rfl rfl rfl ?_
              refine TO.y (Y.extract rfl rfl) rfl rfl rfl ?_
              refine TO.ef (Ef.alloc kz55 rfl) rfl rfl rfl (fun B27 => ?_)
              refine TO.ef0 (Ef.store_box (us := [strV R7.1.Secret, strV R7.1.Keys.Master, Y26.1, .int .i64 R7.1.Keys.Wiped, .int .i64 R7.1.Shares.Size, Y26.2.1, Y26.2.2.1, Y26.2.2.2.1, Y26.2.2.2.2, .int .i64 R7.1.Boot]) (vs' := [strV R7.1.Secret, strV R7.1.Keys.Master, Y26.1, .int .i64 R7.1.Keys.Wiped, .int .i64 R7.1.Shares.Size, Y26.2.1, Y26.2.2.1, Y26.2.2.2.1, Y26.2.2.2.2, .int .i64 R7.1.Boot]) (is' := [.box B27 55 [strV R7.1.Secret, strV R7.1.Keys.Master, Y26.1, .int .i64 R7.1.Keys.Wiped, .int .i64 R7.1.Shares.Size, Y26.2.1, Y26.2.2.1, Y26.2.2.2.1, Y26.2.2.2.2, .int .i64 R7.1.Boot], .own Y26.1 (lc R7.1.Keys.Slots), .own Y26.2.1 (lc R7.1.Shares.List), .own Y26.2.2.1 (lc R7.1.Tens), .own Y26.2.2.2.1 (lc R7.1.Rows), .own Y26.2.2.2.2 (lc R7.1.Hist), .own Y9.1 (lc R18.2.1), .own Y9.2.1 (lc R18.2.2.1), .own Y9.2.2.1 (lc R18.2.2.2.1), .own Y9.2.2.2.1 (lc R18.2.2.2.2.1), .own Y9.2.2.2.2 (lc R18.2.2.2.2.2), .box B6 55 [strV R3.1.Secret, strV R3.1.Keys.Master, Y5.1, .int .i64 R3.1.Keys.Wiped, .int .i64 R3.1.Shares.Size, Y5.2.1, Y5.2.2.1, Y5.2.2.2.1, Y5.2.2.2.2, .int .i64 R3.1.Boot], .box B10 55 [strV R7.1.Secret, strV R7.1.Keys.Master, Y9.1, .int .i64 R7.1.Keys.Wiped, .int .i64 R7.1.Shares.Size, Y9.2.1, Y9.2.2.1, Y9.2.2.2.1, Y9.2.2.2.2, .int .i64 R7.1.Boot], .own Y5.1 (lc R3.1.Keys.Slots), .own Y5.2.1 (lc R3.1.Shares.List), .own Y5.2.2.1 (lc R3.1.Tens), .own Y5.2.2.2.1 (lc R3.1.Rows), .own Y5.2.2.2.2 (lc R3.1.Hist)]) 0 kk55 rfl rfl rfl (Cel.agg ⟨(One.plain rfl), (One.plain rfl), (One.can (Can.own 1 rfl)), (One.plain rfl), (One.plain rfl), (One.can (Can.own 2 rfl)), (One.can (Can.own 3 rfl)), (One.can (Can.own 4 rfl)), (One.can (Can.own 5 rfl)), (One.plain rfl), trivial⟩) rfl rfl rfl rfl) rfl rfl (fun _ => ?_)
              refine TO.y (Y.assign rfl) rfl rfl rfl ?_
              refine TO.nil ?_
              refine TE.next ?_
              refine TW.seq ?_
              refine TW.seq ?_
              refine TW.joinBX (τ := Bool) (X := Unit) (fun T _ => [(9, .pointer (some ⟨B10, 0, none⟩)), (11, .int .i64 R18.1), (70, .bool T)]) (fun _ _ => [.box B10 55 [strV R7.1.Secret, strV R7.1.Keys.Master, Y9.1, .int .i64 R7.1.Keys.Wiped, .int .i64 R7.1.Shares.Size, Y9.2.1, Y9.2.2.1, Y9.2.2.2.1, Y9.2.2.2.2, .int .i64 R7.1.Boot], .own Y9.1 (lc R18.2.1), .own Y9.2.1 (lc R18.2.2.1), .own Y9.2.2.1 (lc R18.2.2.2.1), .own Y9.2.2.2.1 (lc R18.2.2.2.2.1), .own Y9.2.2.2.2 (lc R18.2.2.2.2.2)]) ?_ (fun T28 X29 => ?_)
              · refine TW.region ?_
                refine TO.y (Y.load_box (v := .agg #[strV R7.1.Secret, strV R7.1.Keys.Master, Y26.1, .int .i64 R7.1.Keys.Wiped, .int .i64 R7.1.Shares.Size, Y26.2.1, Y26.2.2.1, Y26.2.2.2.1, Y26.2.2.2.2, .int .i64 R7.1.Boot]) 0 kk55 rfl rfl rfl) rfl rfl rfl ?_
                refine TO.y (Y.load_box (v := .agg #[strV R3.1.Secret, strV R3.1.Keys.Master, Y5.1, .int .i64 R3.1.Keys.Wiped, .int .i64 R3.1.Shares.Size, Y5.2.1, Y5.2.2.1, Y5.2.2.2.1, Y5.2.2.2.2, .int .i64 R3.1.Boot]) 11 kk55 rfl rfl rfl) rfl rfl rfl ?_
                refine TO.bind fun R30 H31 => ?_
                refine TO.ef (Ef.call (rest := [.box B27 55 [strV R7.1.Secret, strV R7.1.Keys.Master, Y26.1, .int .i64 R7.1.Keys.Wiped, .int .i64 R7.1.Shares.Size, Y26.2.1, Y26.2.2.1, Y26.2.2.2.1, Y26.2.2.2.2, .int .i64 R7.1.Boot], .own Y26.1 (lc R7.1.Keys.Slots), .own Y26.2.1 (lc R7.1.Shares.List), .own Y26.2.2.1 (lc R7.1.Tens), .own Y26.2.2.2.1 (lc R7.1.Rows), .own Y26.2.2.2.2 (lc R7.1.Hist), .own Y9.1 (lc R18.2.1), .own Y9.2.1 (lc R18.2.2.1), .own Y9.2.2.1 (lc R18.2.2.2.1), .own Y9.2.2.2.1 (lc R18.2.2.2.2.1), .own Y9.2.2.2.2 (lc R18.2.2.2.2.2), .box B6 55 [strV R3.1.Secret, strV R3.1.Keys.Master, Y5.1, .int .i64 R3.1.Keys.Wiped, .int .i64 R3.1.Shares.Size, Y5.2.1, Y5.2.2.1, Y5.2.2.2.1, Y5.2.2.2.2, .int .i64 R3.1.Boot], .box B10 55 [strV R7.1.Secret, strV R7.1.Keys.Master, Y9.1, .int .i64 R7.1.Keys.Wiped, .int .i64 R7.1.Shares.Size, Y9.2.1, Y9.2.2.1, Y9.2.2.2.1, Y9.2.2.2.2, .int .i64 R7.1.Boot], .own Y5.1 (lc R3.1.Keys.Slots), .own Y5.2.1 (lc R3.1.Shares.List), .own Y5.2.2.1 (lc R3.1.Tens), .own Y5.2.2.2.1 (lc R3.1.Rows), .own Y5.2.2.2.2 (lc R3.1.Hist)]) [0, 0, 0, 0, 0, 0, 0, 0, 0, 0, 0, 0, 0, 0, 0, 0, 0, 0] (laws_eqStore_con R7.1 R3.1 Y26.1 Y26.2.1 Y26.2.2.1 Y26.2.2.2.1 Y26.2.2.2.2 Y5.1 Y5.2.1 Y5.2.2.1 Y5.2.2.2.1 Y5.2.2.2.2 R30 H31) kc27 rfl rfl ⟨(Can.own 1 rfl), (Can.own 2 rfl), (Can.own 3 rfl), (Can.own 4 rfl), (Can.own 5 rfl), (Can.own 13 rfl), (Can.own 14 rfl), (Can.own 15 rfl), (Can.own 16 rfl), (Can.own 17 rfl), trivial⟩) rfl rfl rfl (fun _ => ?_)
                refine TO.y (Y.not rfl) rfl rfl rfl ?_
                refine TO.y (Y.move rfl) rfl rfl rfl ?_
                refine TO.ite (b := !R30) (fun H33 => ?_) (fun H33 => ?_)
                · refine TO.off (Gd.at 4 false 66 (!R30) rfl rfl rfl (beq_tf H33)) rfl rfl ?_
                  refine TO.off (Gd.at 4 false 66 (!R30) rfl rfl rfl (beq_tf H33)) rfl rfl ?_
                  refine TO.off (Gd.at 4 false 66 (!R30) rfl rfl rfl (beq_tf H33)) rfl rfl ?_
                  refine TO.y (Y.pick_t H33 rfl rfl) rfl rfl rfl ?_
                  refine TO.nil ?_
                  exact TE.jb_go () [12, 6, 6, 6, 6, 6] ⟨rfl, rfl, rfl, trivial⟩ rfl
                · refine TO.y (Y.move rfl) (Gd.at 4 false 66 (!R30) rfl rfl rfl (beq_ff H33)) rfl rfl ?_
                  refine TO.y (Y.move rfl) (Gd.at 4 false 66 (!R30) rfl rfl rfl (beq_ff H33)) rfl rfl ?_
                  refine TO.y (Y.neb kb4 rfl rfl) (Gd.at 4 false 66 (!R30) rfl rfl rfl (beq_ff H33)) rfl rfl ?_
                  refine TO.y (Y.pick_f H33 rfl rfl) rfl rfl rfl ?_
                  refine TO.nil ?_
                  exact TE.jb_go () [12, 6, 6, 6, 6, 6] ⟨rfl, rfl, rfl, trivial⟩ rfl
              · refine TE.next ?_
                refine TW.cond rfl (fun H34 => ?_) (fun H34 => ?_)
                · refine TW.seq ?_
                  refine TW.region ?_
                  refine TO.y (Y.assign rfl) rfl rfl rfl ?_
                  refine TO.nil ?_
                  refine TE.next ?_
                  refine TW.ret ?_
                  refine TE.then_ret ?_
                  exact TE.leaf fun _ _ hf_ hs_ => ret_any (rs := [.tmp 6]) (vs := [.bool false]) (.inl rfl) rfl ⟨rfl, trivial⟩ hf_ hs_ ⟨(), rfl, hs_.pulls [] rfl⟩
                · refine TW.skip ?_
                  refine TE.next ?_
                  refine TW.seq ?_
                  refine TW.region ?_
                  refine TO.y (Y.assign rfl) rfl rfl rfl ?_
                  refine TO.nil ?_
                  refine TE.next ?_
                  refine TW.seq ?_
                  refine TW.region ?_
                  refine TO.y (Y.load_box (v := .agg #[strV R7.1.Secret, strV R7.1.Keys.Master, Y9.1, .int .i64 R7.1.Keys.Wiped, .int .i64 R7.1.Shares.Size, Y9.2.1, Y9.2.2.1, Y9.2.2.2.1, Y9.2.2.2.2, .int .i64 R7.1.Boot]) 0 kk55 rfl rfl rfl) rfl rfl rfl ?_
                  refine TO.y (Y.move rfl) rfl rfl rfl ?_
                  refine TO.ef (Ef.call (rest := [.box B10 55 [strV R7.1.Secret, strV R7.1.Keys.Master, Y9.1, .int .i64 R7.1.Keys.Wiped, .int .i64 R7.1.Shares.Size, Y9.2.1, Y9.2.2.1, Y9.2.2.2.1, Y9.2.2.2.2, .int .i64 R7.1.Boot], .own Y9.1 (lc R18.2.1), .own Y9.2.1 (lc R18.2.2.1), .own Y9.2.2.1 (lc R18.2.2.2.1), .own Y9.2.2.2.1 (lc R18.2.2.2.2.1), .own Y9.2.2.2.2 (lc R18.2.2.2.2.2)]) [0, 0, 0, 0, 0, 0] (laws_heldStore_con ({ Secret := R7.1.Secret, Keys := { Master := R7.1.Keys.Master, Slots := R18.2.1, Wiped := R7.1.Keys.Wiped : KeyDev }, Shares := { Size := R7.1.Shares.Size, List := R18.2.2.1 : Shares }, Tens := R18.2.2.2.1, Rows := R18.2.2.2.2.1, Hist := R18.2.2.2.2.2, Boot := R7.1.Boot : Store }) (1 : Int) Y9.1 Y9.2.1 Y9.2.2.1 Y9.2.2.2.1 Y9.2.2.2.2 R21 H22) kc29 rfl rfl ⟨(Can.own 1 rfl), (Can.own 2 rfl), (Can.own 3 rfl), (Can.own 4 rfl), (Can.own 5 rfl), trivial⟩) rfl rfl rfl (fun _ => ?_)
                  refine TO.y (Y.assign rfl) rfl rfl rfl ?_
                  refine TO.nil ?_
                  refine TE.next ?_
                  refine TW.seq ?_
                  refine TW.seq ?_
                  refine TW.region ?_
                  refine TO.y (Y.move rfl) rfl rfl rfl ?_
                  refine TO.y (Y.lss rfl rfl) rfl rfl rfl ?_
                  refine TO.nil ?_
                  refine TE.next ?_
                  refine TW.cond rfl (fun H36 => ?_) (fun H36 => ?_)
                  · refine TW.seq ?_
                    refine TW.region ?_
                    refine TO.y (Y.assign rfl) rfl rfl rfl ?_
                    refine TO.nil ?_
                    refine TE.next ?_
                    refine TW.ret ?_
                    refine TE.then_ret ?_
                    exact TE.leaf fun _ _ hf_ hs_ => ret_any (rs := [.tmp 6]) (vs := [.bool false]) (.inl rfl) rfl ⟨rfl, trivial⟩ hf_ hs_ ⟨(), rfl, hs_.pulls [] rfl⟩
                  · refine TW.skip ?_
                    refine TE.next ?_
                    refine TW.seq ?_
                    refine TW.seq ?_
                    refine TW.region ?_
                    refine TO.y (Y.move rfl) rfl rfl rfl ?_
                    refine TO.y (Y.move rfl) rfl rfl rfl ?_
                    refine TO.y (Y.neq rfl rfl) rfl rfl rfl ?_
                    refine TO.nil ?_
                    refine TE.next ?_
                    refine TW.cond rfl (fun H37 => ?_) (fun H37 => ?_)
                    · refine TW.seq ?_
                      refine TW.region ?_
                      refine TO.y (Y.assign rfl) rfl rfl rfl ?_
                      refine TO.nil ?_
                      refine TE.next ?_
                      refine TW.ret ?_
                      refine TE.then_ret ?_
                      exact TE.leaf fun _ _ hf_ hs_ => ret_any (rs := [.tmp 6]) (vs := [.bool false]) (.inl rfl) rfl ⟨rfl, trivial⟩ hf_ hs_ ⟨(), rfl, hs_.pulls [] rfl⟩
                    · refine TW.skip ?_
                      refine TE.next ?_
                      refine TW.seq ?_
                      refine TW.region ?_
                      refine TO.y (Y.assign rfl) rfl rfl rfl ?_
                      refine TO.nil ?_
                      refine TE.next ?_
                      refine TW.ret ?_
                      exact TE.leaf fun _ _ hf_ hs_ => ret_any (rs := [.tmp 6]) (vs := [.bool true]) (.inl rfl) rfl ⟨rfl, trivial⟩ hf_ hs_ ⟨(), rfl, hs_.pulls [] rfl⟩

/-- loop.example/g00950/spec.EngDrop -/
noncomputable def spec_EngDrop (e : Eng) (snap : Int) : Option (Eng × Bool) :=
  (spec_EngOk e).bind fun R3 =>
  if (!R3) = true then (some ({ Mem := ([] : List Ent), Tables := ([] : List (List Ent)), Seq := (0 : Int), Snaps := ([] : List Int) : Eng }, false))
  else ((spec_l20Copy e).bind fun R10 =>
  bindC (loopO (fun (S15 : Int × List Int) => if (decide (S15.1 < ((R10.Snaps.length : Nat) : Int))) = true then ((idx R10.Snaps S15.1).bind fun E20 =>
  bindC (if (!(decide (E20 = snap))) = true then ((app 8 S15.2 ([E20])).bind fun E27 =>
  some (.go E27))
  else (some (.go S15.2)))
  (fun (T22 : List Int) => some (.go (IntKind.i64.wrap (S15.1 + (1 : Int)), T22))))
  else (some (.done (.go S15.2))))
  ((0 : Int), ([] : List Int)))
  (fun (T17 : List Int) => if (decide (((T17.length : Nat) : Int) = ((R10.Snaps.length : Nat) : Int))) = true then (some (R10, false))
  else (some ({ Mem := R10.Mem, Tables := R10.Tables, Seq := R10.Seq, Snaps := T17 : Eng }, true))))

theorem spec_EngDrop_con (e : Eng) (snap : Int) (V_e0 : Value) (V_e1 : Value) (V_e3 : Value) (r : Eng × Bool) (hm : spec_EngDrop e snap = some r) :
    Con Try.prog 30 [.agg #[V_e0, V_e1, .int .i64 e.Seq, V_e3], .int .i64 snap] [] [(V_e0, lc e.Mem), (V_e1, lc e.Tables), (V_e3, lc e.Snaps)] (fun X : Value × Value × Value => .tuple #[.agg #[X.1, X.2.1, .int .i64 r.1.Seq, X.2.2], .bool r.2]) (fun X => [.own X.1 (lc r.1.Mem), .own X.2.1 (lc r.1.Tables), .own X.2.2 (lc r.1.Snaps)]) := by
  refine Con.intro (args := [.agg #[V_e0, V_e1, .int .i64 e.Seq, V_e3], .int .i64 snap]) (n := 48) (val := fun r (X : Value × Value × Value) => .tuple #[.agg #[X.1, X.2.1, .int .i64 r.1.Seq, X.2.2], .bool r.2]) (post := fun r X => [.own X.1 (lc r.1.Mem), .own X.2.1 (lc r.1.Tables), .own X.2.2 (lc r.1.Snaps)]) (m := spec_EngDrop e snap) Try.func30 rfl rfl rfl hm ?_
  intro w S hrd
  have HB_V_e0 := hrd _ (.head _)
  have HB_V_e1 := hrd _ (.tail _ (.head _))
  have HB_V_e3 := hrd _ (.tail _ (.tail _ (.head _)))
  clear hrd
  unfold spec_EngDrop
  refine TW.seq ?_
  refine TW.region ?_
  refine TO.ef (Ef.box rfl (Cel.agg ⟨(One.can (Base.can HB_V_e0)), (One.can (Base.can HB_V_e1)), (One.plain rfl), (One.can (Base.can HB_V_e3)), trivial⟩)) rfl rfl rfl (fun B1 => ?_)
  refine TO.ef (Ef.alloc kz39 rfl) rfl rfl rfl (fun B2 => ?_)
  refine TO.y (Y.assign rfl) rfl rfl rfl ?_
  refine TO.nil ?_
  refine TE.next ?_
  refine TW.seq ?_
  refine TW.seq ?_
  refine TW.region ?_
  refine TO.y (Y.load_box (v := .agg #[V_e0, V_e1, .int .i64 e.Seq, V_e3]) 1 kk39 rfl rfl rfl) rfl rfl rfl ?_
  refine TO.bind fun R3 H4 => ?_
  refine TO.ef (Ef.call (rest := [.box B2 39 [.slice none 0 0, .slice none 0 0, .int .i64 (0 : Int), .slice none 0 0], .box B1 39 [V_e0, V_e1, .int .i64 e.Seq, V_e3]]) [0, 0] (spec_EngOk_con e V_e0 V_e1 V_e3 R3 H4) kc46 rfl rfl ⟨(Base.can HB_V_e0), (Base.can HB_V_e1), (Base.can HB_V_e3), trivial⟩) rfl rfl rfl (fun _ => ?_)
  refine TO.y (Y.not rfl) rfl rfl rfl ?_
  refine TO.nil ?_
  refine TE.next ?_
  refine TW.cond rfl (fun H6 => ?_) (fun H6 => ?_)
  · refine TW.seq ?_
    refine TW.region ?_
    refine TO.y (Y.build (cells := [.slice none 0 0, .slice none 0 0, .int .i64 (0 : Int), .slice none 0 0]) [] kp39 kz39 trivial rfl) rfl rfl rfl ?_
    refine TO.ef0 (Ef.store_box (us := [.slice none 0 0, .slice none 0 0, .int .i64 (0 : Int), .slice none 0 0]) (vs' := [.slice none 0 0, .slice none 0 0, .int .i64 (0 : Int), .slice none 0 0]) (is' := [.box B2 39 [.slice none 0 0, .slice none 0 0, .int .i64 (0 : Int), .slice none 0 0], .box B1 39 [V_e0, V_e1, .int .i64 e.Seq, V_e3]]) 0 kk39 rfl rfl rfl (Cel.plain rfl rfl) rfl rfl rfl rfl) rfl rfl (fun _ => ?_)
    refine TO.y (Y.assign rfl) rfl rfl rfl ?_
    refine TO.nil ?_
    refine TE.next ?_
    refine TW.ret ?_
    refine TE.then_ret ?_
    exact TE.leaf fun _ _ hf_ hs_ => ret_any (rs := [.cell 4 39, .tmp 5]) (vs := [.agg #[.slice none 0 0, .slice none 0 0, .int .i64 (0 : Int), .slice none 0 0], .bool false]) (.inl rfl) rfl (RV.cell 0 rfl rfl kk39 rfl ⟨rfl, trivial⟩) hf_ hs_ ⟨((.slice none 0 0), (.slice none 0 0), (.slice none 0 0)), rfl, (((hs_.nilItem 4).nilItem 1).nilItem 1).pulls [2, 1, 0] rfl⟩
  · refine TW.skip ?_
    refine TE.next ?_
    refine TW.seq ?_
    refine TW.region ?_
    refine TO.y (Y.load_box (v := .agg #[V_e0, V_e1, .int .i64 e.Seq, V_e3]) 1 kk39 rfl rfl rfl) rfl rfl rfl ?_
    refine TO.bind fun R10 H11 => ?_
    refine TO.ef (Ef.call (rest := [.box B2 39 [.slice none 0 0, .slice none 0 0, .int .i64 (0 : Int), .slice none 0 0], .box B1 39 [V_e0, V_e1, .int .i64 e.Seq, V_e3]]) [0, 0] (spec_l20Copy_con e V_e0 V_e1 V_e3 R10 H11) kc47 rfl rfl ⟨(Base.can HB_V_e0), (Base.can HB_V_e1), (Base.can HB_V_e3), trivial⟩) rfl rfl rfl (fun Y12 => ?_)
    refine TO.ef (Ef.alloc kz39 rfl) rfl rfl rfl (fun B13 => ?_)
    refine TO.ef0 (Ef.store_box (us := [Y12.1, Y12.2.1, .int .i64 R10.Seq, Y12.2.2]) (vs' := [Y12.1, Y12.2.1, .int .i64 R10.Seq, Y12.2.2]) (is' := [.box B13 39 [Y12.1, Y12.2.1, .int .i64 R10.Seq, Y12.2.2], .own Y12.1 (lc R10.Mem), .own Y12.2.1 (lc R10.Tables), .own Y12.2.2 (lc R10.Snaps), .box B2 39 [.slice none 0 0, .slice none 0 0, .int .i64 (0 : Int), .slice none 0 0], .box B1 39 [V_e0, V_e1, .int .i64 e.Seq, V_e3]]) 0 kk39 rfl rfl rfl (Cel.agg ⟨(One.can (Can.own 1 rfl)), (One.can (Can.own 2 rfl)), (One.plain rfl), (One.can (Can.own 3 rfl)), trivial⟩) rfl rfl rfl rfl) rfl rfl (fun _ => ?_)
    refine TO.nil ?_
    refine TE.next ?_
    refine TW.seq ?_
    refine TW.region ?_
    refine TO.ef (Ef.buildSlice (α := Int) (Vs := []) ([] : List Int) ke34 kz3 rfl rfl rfl rfl rfl) rfl rfl rfl (fun B14 => ?_)
    refine TO.y (Y.assign rfl) rfl rfl rfl ?_
    refine TO.nil ?_
    refine TE.next ?_
    refine TW.seq ?_
    refine TW.seq ?_
    refine TW.region ?_
    refine TO.y (Y.assign rfl) rfl rfl rfl ?_
    refine TO.nil ?_
    refine TE.next ?_
    refine TW.joinX (τ := List Int) (X := Value) (fun _ X => [(4, .pointer (some ⟨B2, 0, none⟩)), (6, .pointer (some ⟨B13, 0, none⟩)), (7, X)]) (fun T X => [.box B2 39 [.slice none 0 0, .slice none 0 0, .int .i64 (0 : Int), .slice none 0 0], .box B13 39 [Y12.1, Y12.2.1, .int .i64 R10.Seq, Y12.2.2], .own Y12.1 (lc R10.Mem), .own Y12.2.1 (lc R10.Tables), .own Y12.2.2 (lc R10.Snaps), .own X (lc T)]) ?_ (fun T17 X18 => ?_)
    · refine TW.block ?_
      refine TW.loopX (σ := Int × List Int) (X := Value) (fun T X => [(1, .int .i64 snap), (4, .pointer (some ⟨B2, 0, none⟩)), (6, .pointer (some ⟨B13, 0, none⟩)), (7, X), (8, .int .i64 T.1)]) (fun T X => [.box B2 39 [.slice none 0 0, .slice none 0 0, .int .i64 (0 : Int), .slice none 0 0], .box B13 39 [Y12.1, Y12.2.1, .int .i64 R10.Seq, Y12.2.2], .own Y12.1 (lc R10.Mem), .own Y12.2.1 (lc R10.Tables), .own Y12.2.2 (lc R10.Snaps), .own X (lc T.2)]) (.slice (some ⟨B14, 0, none⟩) 0 0) [5, 1, 1, 1, 1, 0] ⟨rfl, rfl, rfl, rfl, rfl, trivial⟩ rfl (fun S15 X16 => ?_)
      refine TW.seq ?_
      refine TW.seq ?_
      refine TW.region ?_
      refine TO.y (Y.move rfl) rfl rfl rfl ?_
      refine TO.y (Y.field_box kf39_3 rfl rfl) rfl rfl rfl ?_
      refine TO.y (Y.load_box (v := Y12.2.2) 1 kk34 rfl rfl rfl) rfl rfl rfl ?_
      refine TO.y (Y.len (l := R10.Snaps) ke34 (Can.own 4 rfl) rfl) rfl rfl rfl ?_
      refine TO.y (Y.lss rfl rfl) rfl rfl rfl ?_
      refine TO.nil ?_
      refine TE.next ?_
      refine TW.cond rfl (fun H19 => ?_) (fun H19 => ?_)
      · refine TW.skip ?_
        refine TE.next ?_
        refine TW.seq ?_
        refine TW.block ?_
        refine TW.seq ?_
        refine TW.region ?_
        refine TO.y (Y.field_box kf39_3 rfl rfl) rfl rfl rfl ?_
        refine TO.y (Y.load_box (v := Y12.2.2) 1 kk34 rfl rfl rfl) rfl rfl rfl ?_
        refine TO.y (Y.move rfl) rfl rfl rfl ?_
        refine TO.bind fun E20 H21 => ?_
        refine TO.y (Y.index ke34 (Can.own 4 rfl) H21 rfl rfl) rfl rfl rfl ?_
        refine TO.y (Y.load_el (us := [.int .i64 E20]) (u := .int .i64 E20) kk3 rfl (Can.own 4 rfl) (idx_get H21).2.2 rfl rfl rfl rfl rfl) rfl rfl rfl ?_
        refine TO.y (Y.move rfl) rfl rfl rfl ?_
        refine TO.y (Y.neq rfl rfl) rfl rfl rfl ?_
        refine TO.nil ?_
        refine TE.next ?_
        refine TW.joinX (τ := List Int) (X := Value) (fun _ X => [(1, .int .i64 snap), (4, .pointer (some ⟨B2, 0, none⟩)), (6, .pointer (some ⟨B13, 0, none⟩)), (7, X), (8, .int .i64 S15.1)]) (fun T X => [.box B2 39 [.slice none 0 0, .slice none 0 0, .int .i64 (0 : Int), .slice none 0 0], .box B13 39 [Y12.1, Y12.2.1, .int .i64 R10.Seq, Y12.2.2], .own Y12.1 (lc R10.Mem), .own Y12.2.1 (lc R10.Tables), .own Y12.2.2 (lc R10.Snaps), .own X (lc T)]) ?_ (fun T22 X23 => ?_)
        · refine TW.cond rfl (fun H24 => ?_) (fun H24 => ?_)
          · refine TW.region ?_
            refine TO.y (Y.move rfl) rfl rfl rfl ?_
            refine TO.y (Y.field_box kf39_3 rfl rfl) rfl rfl rfl ?_
            refine TO.y (Y.load_box (v := Y12.2.2) 1 kk34 rfl rfl rfl) rfl rfl rfl ?_
            refine TO.y (Y.move rfl) rfl rfl rfl ?_
            refine TO.y (Y.index ke34 (Can.own 4 rfl) H21 rfl rfl) rfl rfl rfl ?_
            refine TO.y (Y.load_el (us := [.int .i64 E20]) (u := .int .i64 E20) kk3 rfl (Can.own 4 rfl) (idx_get H21).2.2 rfl rfl rfl rfl rfl) rfl rfl rfl ?_
            refine TO.ef (Ef.buildSlice (α := Int) (Vs := [.int .i64 E20]) [E20] ke34 kz3 rfl rfl rfl rfl rfl) rfl rfl rfl (fun B25 => ?_)
            refine TO.bind fun E27 H28 => ?_
            refine TO.ef (Ef.append (α := Int) (is' := [.own (.slice (some ⟨B25, 0, none⟩) 1 1) (lc ([E20])), .box B2 39 [.slice none 0 0, .slice none 0 0, .int .i64 (0 : Int), .slice none 0 0], .box B13 39 [Y12.1, Y12.2.1, .int .i64 R10.Seq, Y12.2.2], .own Y12.1 (lc R10.Mem), .own Y12.2.1 (lc R10.Tables), .own Y12.2.2 (lc R10.Snaps)]) [6, 0, 0, 0, 0, 0, 0] H28 ke34 kz3 rfl rfl rfl rfl rfl (Can.own 0 rfl)) rfl rfl rfl (fun V26 => ?_)
            refine TO.y (Y.assign rfl) rfl rfl rfl ?_
            refine TO.nil ?_
            exact TE.jn_go V26 [2, 2, 2, 2, 2, 0] ⟨rfl, rfl, rfl, rfl, rfl, trivial⟩ rfl
          · refine TW.skip ?_
            exact TE.jn_go X16 [0, 0, 0, 0, 0, 0] ⟨rfl, rfl, rfl, rfl, rfl, trivial⟩ rfl
        · refine TE.block_normal ?_
          refine TE.next ?_
          refine TW.region ?_
          refine TO.y (Y.move rfl) rfl rfl rfl ?_
          refine TO.y (Y.add rfl rfl) rfl rfl rfl ?_
          refine TO.y (Y.assign rfl) rfl rfl rfl ?_
          refine TO.nil ?_
          exact TE.lp_go X23 [0, 0, 0, 0, 0, 0] ⟨rfl, rfl, rfl, rfl, rfl, trivial⟩ rfl
      · refine TW.exit ?_
        refine TE.then_exit ?_
        refine TE.lp_exit ?_
        refine TE.block_exit ?_
        exact TE.jn_go X16 [0, 0, 0, 0, 0, 0] ⟨rfl, rfl, rfl, trivial⟩ rfl
    · refine TE.next ?_
      refine TW.seq ?_
      refine TW.seq ?_
      refine TW.region ?_
      refine TO.y (Y.move rfl) rfl rfl rfl ?_
      refine TO.y (Y.len (l := T17) ke34 (Can.own 5 rfl) rfl) rfl rfl rfl ?_
      refine TO.y (Y.field_box kf39_3 rfl rfl) rfl rfl rfl ?_
      refine TO.y (Y.load_box (v := Y12.2.2) 1 kk34 rfl rfl rfl) rfl rfl rfl ?_
      refine TO.y (Y.len (l := R10.Snaps) ke34 (Can.own 4 rfl) rfl) rfl rfl rfl ?_
      refine TO.y (Y.eql rfl rfl) rfl rfl rfl ?_
      refine TO.nil ?_
      refine TE.next ?_
      refine TW.cond rfl (fun H29 => ?_) (fun H29 => ?_)
      · refine TW.seq ?_
        refine TW.region ?_
        refine TO.y (Y.load_box (v := .agg #[Y12.1, Y12.2.1, .int .i64 R10.Seq, Y12.2.2]) 1 kk39 rfl rfl rfl) rfl rfl rfl ?_
        refine TO.ef0 (Ef.store_box (us := [Y12.1, Y12.2.1, .int .i64 R10.Seq, Y12.2.2]) (vs' := [Y12.1, Y12.2.1, .int .i64 R10.Seq, Y12.2.2]) (is' := [.box B2 39 [Y12.1, Y12.2.1, .int .i64 R10.Seq, Y12.2.2], .box B13 39 [Y12.1, Y12.2.1, .int .i64 R10.Seq, Y12.2.2], .own Y12.1 (lc R10.Mem), .own Y12.2.1 (lc R10.Tables), .own Y12.2.2 (lc R10.Snaps), .own X18 (lc T17)]) 0 kk39 rfl rfl rfl (Cel.agg ⟨(One.can (Can.own 2 rfl)), (One.can (Can.own 3 rfl)), (One.plain rfl), (One.can (Can.own 4 rfl)), trivial⟩) rfl rfl rfl rfl) rfl rfl (fun _ => ?_)
        refine TO.y (Y.assign rfl) rfl rfl rfl ?_
        refine TO.nil ?_
        refine TE.next ?_
        refine TW.ret ?_
        refine TE.then_ret ?_
        exact TE.leaf fun _ _ hf_ hs_ => ret_any (rs := [.cell 4 39, .tmp 5]) (vs := [.agg #[Y12.1, Y12.2.1, .int .i64 R10.Seq, Y12.2.2], .bool false]) (.inl rfl) rfl (RV.cell 0 rfl rfl kk39 rfl ⟨rfl, trivial⟩) hf_ hs_ ⟨(Y12.1, Y12.2.1, Y12.2.2), rfl, hs_.pulls [2, 2, 2] rfl⟩
      · refine TW.skip ?_
        refine TE.next ?_
        refine TW.seq ?_
        refine TW.region ?_
        refine TO.y (Y.move rfl) rfl rfl rfl ?_
        refine TO.y (Y.field_box kf39_3 rfl rfl) rfl rfl rfl ?_
        refine TO.ef0 (Ef.store_box (us := [X18]) (vs' := [Y12.1, Y12.2.1, .int .i64 R10.Seq, X18]) (is' := [.box B2 39 [.slice none 0 0, .slice none 0 0, .int .i64 (0 : Int), .slice none 0 0], .box B13 39 [Y12.1, Y12.2.1, .int .i64 R10.Seq, X18], .own Y12.1 (lc R10.Mem), .own Y12.2.1 (lc R10.Tables), .own Y12.2.2 (lc R10.Snaps), .own X18 (lc T17)]) 1 kk34 rfl rfl rfl (Cel.one (One.can (Can.own 5 rfl))) rfl rfl rfl rfl) rfl rfl (fun _ => ?_)
        refine TO.nil ?_
        refine TE.next ?_
        refine TW.seq ?_
        refine TW.region ?_
        refine TO.y (Y.load_box (v := .agg #[Y12.1, Y12.2.1, .int .i64 R10.Seq, X18]) 1 kk39 rfl rfl rfl) rfl rfl rfl ?_
        refine TO.ef0 (Ef.store_box (us := [Y12.1, Y12.2.1, .int .i64 R10.Seq, X18]) (vs' := [Y12.1, Y12.2.1, .int .i64 R10.Seq, X18]) (is' := [.box B2 39 [Y12.1, Y12.2.1, .int .i64 R10.Seq, X18], .box B13 39 [Y12.1, Y12.2.1, .int .i64 R10.Seq, X18], .own Y12.1 (lc R10.Mem), .own Y12.2.1 (lc R10.Tables), .own Y12.2.2 (lc R10.Snaps), .own X18 (lc T17)]) 0 kk39 rfl rfl rfl (Cel.agg ⟨(One.can (Can.own 2 rfl)), (One.can (Can.own 3 rfl)), (One.plain rfl), (One.can (Can.own 5 rfl)), trivial⟩) rfl rfl rfl rfl) rfl rfl (fun _ => ?_)
        refine TO.y (Y.assign rfl) rfl rfl rfl ?_
        refine TO.nil ?_
        refine TE.next ?_
        refine TW.ret ?_
        exact TE.leaf fun _ _ hf_ hs_ => ret_any (rs := [.cell 4 39, .tmp 5]) (vs := [.agg #[Y12.1, Y12.2.1, .int .i64 R10.Seq, X18], .bool true]) (.inl rfl) rfl (RV.cell 0 rfl rfl kk39 rfl ⟨rfl, trivial⟩) hf_ hs_ ⟨(Y12.1, Y12.2.1, X18), rfl, hs_.pulls [2, 2, 3] rfl⟩

/-- slices.Delete[[]int,int] -/
noncomputable def slices_Delete_88240 (s : List Int) (i : Int) (j : Int) : Option (List Int) :=
  (piece s i j).bind fun E1 =>
  if (decide (i = j)) = true then (some s)
  else ((piece s (0 : Int) i).bind fun E5 =>
  (piece s j ((s.length : Nat) : Int)).bind fun E7 =>
  some (E5 ++ E7))

theorem slices_Delete_88240_con (s : List Int) (i : Int) (j : Int) (V_s0 : Value) (r : List Int) (hm : slices_Delete_88240 s i j = some r) :
    Con Try.prog 71 [V_s0, .int .i64 i, .int .i64 j] [.own V_s0 (lc s)] [] (fun X : Value => X) (fun X => [.own X (lc r)]) := by
  refine Con.intro (args := [V_s0, .int .i64 i, .int .i64 j]) (n := 33) (val := fun _ (X : Value) => X) (post := fun r X => [.own X (lc r)]) (m := slices_Delete_88240 s i j) Try.func71 rfl rfl rfl hm ?_
  intro w S _
  unfold slices_Delete_88240
  refine TW.seq ?_
  refine TW.region ?_
  refine TO.y (Y.assign rfl) rfl rfl rfl ?_
  refine TO.nil ?_
  refine TE.next ?_
  refine TW.seq ?_
  refine TW.region ?_
  refine TO.y (Y.move rfl) rfl rfl rfl ?_
  refine TO.y (Y.move rfl) rfl rfl rfl ?_
  refine TO.y (Y.move rfl) rfl rfl rfl ?_
  refine TO.y (Y.move rfl) rfl rfl rfl ?_
  refine TO.y (Y.len (l := s) ke34 (Can.own 0 rfl) rfl) rfl rfl rfl ?_
  refine TO.bind fun E1 H2 => ?_
  refine TO.fact (Can.cap (Can.own 0 rfl)) fun H3 => ?_
  refine TO.y (Y.subs3 H2 ke34 (Can.own 0 rfl) rfl rfl rfl rfl) rfl rfl rfl ?_
  refine TO.nil ?_
  refine TE.next ?_
  refine TW.seq ?_
  refine TW.seq ?_
  refine TW.region ?_
  refine TO.y (Y.move rfl) rfl rfl rfl ?_
  refine TO.y (Y.move rfl) rfl rfl rfl ?_
  refine TO.y (Y.eql rfl rfl) rfl rfl rfl ?_
  refine TO.nil ?_
  refine TE.next ?_
  refine TW.cond rfl (fun H4 => ?_) (fun H4 => ?_)
  · refine TW.seq ?_
    refine TW.region ?_
    refine TO.y (Y.move rfl) rfl rfl rfl ?_
    refine TO.y (Y.assign rfl) rfl rfl rfl ?_
    refine TO.nil ?_
    refine TE.next ?_
    refine TW.ret ?_
    refine TE.then_ret ?_
    exact TE.leaf fun _ _ hf_ hs_ => ret_any (rs := [.tmp 6]) (vs := [V_s0]) (.inl rfl) rfl ⟨rfl, trivial⟩ hf_ hs_ ⟨V_s0, rfl, hs_.pulls [0] rfl⟩
  · refine TW.skip ?_
    refine TE.next ?_
    refine TW.seq ?_
    refine TW.region ?_
    refine TO.y (Y.move rfl) rfl rfl rfl ?_
    refine TO.y (Y.len (l := s) ke34 (Can.own 0 rfl) rfl) rfl rfl rfl ?_
    refine TO.y (Y.assign rfl) rfl rfl rfl ?_
    refine TO.nil ?_
    refine TE.next ?_
    refine TW.seq ?_
    refine TW.bind fun E5 H6 => ?_
    refine TW.bind fun E7 H8 => ?_
    refine TW.joinU (X := Unit) (fun _ _ => [(0, delV V_s0 (E5 ++ E7).length), (7, .int .i64 ((s.length : Nat) : Int))]) (fun _ _ => [.own (delV V_s0 (E5 ++ E7).length) (lc (E5 ++ E7))]) ?_ (fun _ X10 => ?_)
    · refine TW.draw (isH := []) hMix ?_
      refine TA.y (listed' := #[true, false, false, false, false, false, false, false]) 0 [] rfl (Y.move rfl) rfl rfl rfl (by kernel_rfl) (by kernel_rfl) (by kernel_rfl) rfl rfl ?_
      refine TA.y (listed' := #[true, true, false, false, false, false, false, false]) 1 [] rfl (Y.move rfl) rfl rfl rfl (by kernel_rfl) (by kernel_rfl) (by kernel_rfl) rfl rfl ?_
      refine TA.y (listed' := #[true, true, false, true, false, false, false, false]) 3 [] rfl (Y.move rfl) rfl rfl rfl (by kernel_rfl) (by kernel_rfl) (by kernel_rfl) rfl rfl ?_
      refine TA.y (listed' := #[true, true, false, true, true, false, false, false]) 4 [] rfl (Y.move rfl) rfl rfl rfl (by kernel_rfl) (by kernel_rfl) (by kernel_rfl) rfl rfl ?_
      refine TA.two 2 5 (by kernel_rfl) ?_ ?_
      · refine TX.y (listed' := #[true, true, true, true, true, false, false, false]) [] rfl (Y.subs H6 ke34 (Can.own 0 rfl) rfl rfl ⟨_, rfl⟩) rfl rfl rfl rfl rfl ?_
        refine TA.one 5 (by kernel_rfl) ?_
        refine TX.y (listed' := #[true, true, true, true, true, true, false, false]) [] rfl (Y.subs H8 ke34 (Can.own 0 rfl) rfl ⟨_, rfl⟩ rfl) rfl rfl rfl rfl rfl ?_
        refine TA.one 6 (by kernel_rfl) ?_
        refine TX.ef (listed' := #[true, true, true, true, true, true, true, false]) [] rfl (Ef.del (α := Int) (is' := []) [0] H2 H6 H8 ke34 rfl rfl rfl rfl) rfl rfl rfl rfl (fun _ => rfl) (fun _ => ?_)
        refine TA.y (listed' := #[true, true, true, true, true, true, true, true]) 7 [] rfl (Y.assign rfl) rfl rfl rfl (by kernel_rfl) (by kernel_rfl) (by kernel_rfl) rfl rfl ?_
        refine TA.nil (by kernel_rfl) ?_
        exact TE.jb_go () [0] ⟨rfl, rfl, trivial⟩ rfl
      · refine TX.y (listed' := #[true, true, false, true, true, true, false, false]) [] rfl (Y.subs H8 ke34 (Can.own 0 rfl) rfl ⟨_, rfl⟩ rfl) rfl rfl rfl rfl rfl ?_
        refine TA.one 2 (by kernel_rfl) ?_
        refine TX.y (listed' := #[true, true, true, true, true, true, false, false]) [] rfl (Y.subs H6 ke34 (Can.own 0 rfl) rfl rfl ⟨_, rfl⟩) rfl rfl rfl rfl rfl ?_
        refine TA.one 6 (by kernel_rfl) ?_
        refine TX.ef (listed' := #[true, true, true, true, true, true, true, false]) [] rfl (Ef.del (α := Int) (is' := []) [0] H2 H6 H8 ke34 rfl rfl rfl rfl) rfl rfl rfl rfl (fun _ => rfl) (fun _ => ?_)
        refine TA.y (listed' := #[true, true, true, true, true, true, true, true]) 7 [] rfl (Y.assign rfl) rfl rfl rfl (by kernel_rfl) (by kernel_rfl) (by kernel_rfl) rfl rfl ?_
        refine TA.nil (by kernel_rfl) ?_
        exact TE.jb_go () [0] ⟨rfl, rfl, trivial⟩ rfl
    · refine TE.next ?_
      refine TW.seq ?_
      refine TW.region ?_
      refine TO.y (Y.move rfl) rfl rfl rfl ?_
      refine TO.y (Y.move rfl) rfl rfl rfl ?_
      refine TO.y (Y.len (l := (E5 ++ E7)) ke34 (Can.own 0 rfl) rfl) rfl rfl rfl ?_
      refine TO.y (Y.move rfl) rfl rfl rfl ?_
      refine TO.y (Y.tail (hi := s.length) H3 (del_le H2 H6 H8) ke34 rfl rfl rfl) rfl rfl rfl ?_
      refine TO.ef0 (Ef.clearTail (k := 0) H3 (del_le H2 H6 H8) ke34 kz3 rfl rfl rfl rfl) rfl rfl (fun _ => ?_)
      refine TO.nil ?_
      refine TE.next ?_
      refine TW.seq ?_
      refine TW.region ?_
      refine TO.y (Y.move rfl) rfl rfl rfl ?_
      refine TO.y (Y.assign rfl) rfl rfl rfl ?_
      refine TO.nil ?_
      refine TE.next ?_
      refine TW.ret ?_
      exact TE.leaf fun _ _ hf_ hs_ => ret_any (rs := [.tmp 6]) (vs := [delV V_s0 (E5 ++ E7).length]) (.inl rfl) rfl ⟨rfl, trivial⟩ hf_ hs_ ⟨(delV V_s0 (E5 ++ E7).length), rfl, hs_.pulls [0] rfl⟩

/-- loop.example/g00950/impl.EngDrop -/
noncomputable def impl_EngDrop (e : Eng) (snap : Int) : Option (Eng × Bool) :=
  (impl_EngOk e).bind fun R3 =>
  if (!R3) = true then (some ({ Mem := ([] : List Ent), Tables := ([] : List (List Ent)), Seq := (0 : Int), Snaps := ([] : List Int) : Eng }, false))
  else ((impl_copyEng e).bind fun R10 =>
  (slices_Index_88240 e.Snaps snap).bind fun R14 =>
  if (decide (R14 < (0 : Int))) = true then (some (R10, false))
  else ((slices_Delete_88240 R10.Snaps R14 (IntKind.i64.wrap (R14 + (1 : Int)))).bind fun R18 =>
  some ({ Mem := R10.Mem, Tables := R10.Tables, Seq := R10.Seq, Snaps := R18 : Eng }, true)))

theorem impl_EngDrop_con (e : Eng) (snap : Int) (V_e0 : Value) (V_e1 : Value) (V_e3 : Value) (r : Eng × Bool) (hm : impl_EngDrop e snap = some r) :
    Con Try.prog 31 [.agg #[V_e0, V_e1, .int .i64 e.Seq, V_e3], .int .i64 snap] [] [(V_e0, lc e.Mem), (V_e1, lc e.Tables), (V_e3, lc e.Snaps)] (fun X : Value × Value × Value => .tuple #[.agg #[X.1, X.2.1, .int .i64 r.1.Seq, X.2.2], .bool r.2]) (fun X => [.own X.1 (lc r.1.Mem), .own X.2.1 (lc r.1.Tables), .own X.2.2 (lc r.1.Snaps)]) := by
  refine Con.intro (args := [.agg #[V_e0, V_e1, .int .i64 e.Seq, V_e3], .int .i64 snap]) (n := 29) (val := fun r (X : Value × Value × Value) => .tuple #[.agg #[X.1, X.2.1, .int .i64 r.1.Seq, X.2.2], .bool r.2]) (post := fun r X => [.own X.1 (lc r.1.Mem), .own X.2.1 (lc r.1.Tables), .own X.2.2 (lc r.1.Snaps)]) (m := impl_EngDrop e snap) Try.func31 rfl rfl rfl hm ?_
  intro w S hrd
  have HB_V_e0 := hrd _ (.head _)
  have HB_V_e1 := hrd _ (.tail _ (.head _))
  have HB_V_e3 := hrd _ (.tail _ (.tail _ (.head _)))
  clear hrd
  unfold impl_EngDrop
  refine TW.seq ?_
  refine TW.region ?_
  refine TO.ef (Ef.box rfl (Cel.agg ⟨(One.can (Base.can HB_V_e0)), (One.can (Base.can HB_V_e1)), (One.plain rfl), (One.can (Base.can HB_V_e3)), trivial⟩)) rfl rfl rfl (fun B1 => ?_)
  refine TO.ef (Ef.alloc kz39 rfl) rfl rfl rfl (fun B2 => ?_)
  refine TO.y (Y.assign rfl) rfl rfl rfl ?_
  refine TO.nil ?_
  refine TE.next ?_
  refine TW.seq ?_
  refine TW.seq ?_
  refine TW.region ?_
  refine TO.y (Y.load_box (v := .agg #[V_e0, V_e1, .int .i64 e.Seq, V_e3]) 1 kk39 rfl rfl rfl) rfl rfl rfl ?_
  refine TO.bind fun R3 H4 => ?_
  refine TO.ef (Ef.call (rest := [.box B2 39 [.slice none 0 0, .slice none 0 0, .int .i64 (0 : Int), .slice none 0 0], .box B1 39 [V_e0, V_e1, .int .i64 e.Seq, V_e3]]) [0, 0] (impl_EngOk_con e V_e0 V_e1 V_e3 R3 H4) kc49 rfl rfl ⟨(Base.can HB_V_e0), (Base.can HB_V_e1), (Base.can HB_V_e3), trivial⟩) rfl rfl rfl (fun _ => ?_)
  refine TO.y (Y.not rfl) rfl rfl rfl ?_
  refine TO.nil ?_
  refine TE.next ?_
  refine TW.cond rfl (fun H6 => ?_) (fun H6 => ?_)
  · refine TW.seq ?_
    refine TW.region ?_
    refine TO.y (Y.build (cells := [.slice none 0 0, .slice none 0 0, .int .i64 (0 : Int), .slice none 0 0]) [] kp39 kz39 trivial rfl) rfl rfl rfl ?_
    refine TO.ef0 (Ef.store_box (us := [.slice none 0 0, .slice none 0 0, .int .i64 (0 : Int), .slice none 0 0]) (vs' := [.slice none 0 0, .slice none 0 0, .int .i64 (0 : Int), .slice none 0 0]) (is' := [.box B2 39 [.slice none 0 0, .slice none 0 0, .int .i64 (0 : Int), .slice none 0 0], .box B1 39 [V_e0, V_e1, .int .i64 e.Seq, V_e3]]) 0 kk39 rfl rfl rfl (Cel.plain rfl rfl) rfl rfl rfl rfl) rfl rfl (fun _ => ?_)
    refine TO.y (Y.assign rfl) rfl rfl rfl ?_
    refine TO.nil ?_
    refine TE.next ?_
    refine TW.ret ?_
    refine TE.then_ret ?_
    exact TE.leaf fun _ _ hf_ hs_ => ret_any (rs := [.cell 4 39, .tmp 5]) (vs := [.agg #[.slice none 0 0, .slice none 0 0, .int .i64 (0 : Int), .slice none 0 0], .bool false]) (.inl rfl) rfl (RV.cell 0 rfl rfl kk39 rfl ⟨rfl, trivial⟩) hf_ hs_ ⟨((.slice none 0 0), (.slice none 0 0), (.slice none 0 0)), rfl, (((hs_.nilItem 4).nilItem 1).nilItem 1).pulls [2, 1, 0] rfl⟩
  · refine TW.skip ?_
    refine TE.next ?_
    refine TW.seq ?_
    refine TW.region ?_
    refine TO.y (Y.load_box (v := .agg #[V_e0, V_e1, .int .i64 e.Seq, V_e3]) 1 kk39 rfl rfl rfl) rfl rfl rfl ?_
    refine TO.bind fun R10 H11 => ?_
    refine TO.ef (Ef.call (rest := [.box B2 39 [.slice none 0 0, .slice none 0 0, .int .i64 (0 : Int), .slice none 0 0], .box B1 39 [V_e0, V_e1, .int .i64 e.Seq, V_e3]]) [0, 0] (impl_copyEng_con e V_e0 V_e1 V_e3 R10 H11) kc50 rfl rfl ⟨(Base.can HB_V_e0), (Base.can HB_V_e1), (Base.can HB_V_e3), trivial⟩) rfl rfl rfl (fun Y12 => ?_)
    refine TO.ef (Ef.alloc kz39 rfl) rfl rfl rfl (fun B13 => ?_)
    refine TO.ef0 (Ef.store_box (us := [Y12.1, Y12.2.1, .int .i64 R10.Seq, Y12.2.2]) (vs' := [Y12.1, Y12.2.1, .int .i64 R10.Seq, Y12.2.2]) (is' := [.box B13 39 [Y12.1, Y12.2.1, .int .i64 R10.Seq, Y12.2.2], .own Y12.1 (lc R10.Mem), .own Y12.2.1 (lc R10.Tables), .own Y12.2.2 (lc R10.Snaps), .box B2 39 [.slice none 0 0, .slice none 0 0, .int .i64 (0 : Int), .slice none 0 0], .box B1 39 [V_e0, V_e1, .int .i64 e.Seq, V_e3]]) 0 kk39 rfl rfl rfl (Cel.agg ⟨(One.can (Can.own 1 rfl)), (One.can (Can.own 2 rfl)), (One.plain rfl), (One.can (Can.own 3 rfl)), trivial⟩) rfl rfl rfl rfl) rfl rfl (fun _ => ?_)
    refine TO.nil ?_
    refine TE.next ?_
    refine TW.seq ?_
    refine TW.region ?_
    refine TO.y (Y.field_box kf39_3 rfl rfl) rfl rfl rfl ?_
    refine TO.y (Y.load_box (v := V_e3) 5 kk34 rfl rfl rfl) rfl rfl rfl ?_
    refine TO.y (Y.move rfl) rfl rfl rfl ?_
    refine TO.bind fun R14 H15 => ?_
    refine TO.ef (Ef.call (rest := [.box B13 39 [Y12.1, Y12.2.1, .int .i64 R10.Seq, Y12.2.2], .own Y12.1 (lc R10.Mem), .own Y12.2.1 (lc R10.Tables), .own Y12.2.2 (lc R10.Snaps), .box B2 39 [.slice none 0 0, .slice none 0 0, .int .i64 (0 : Int), .slice none 0 0], .box B1 39 [V_e0, V_e1, .int .i64 e.Seq, V_e3]]) [0, 0, 0, 0, 0, 0] (slices_Index_88240_con e.Snaps snap V_e3 R14 H15) kc70 rfl rfl ⟨(Base.can HB_V_e3), trivial⟩) rfl rfl rfl (fun _ => ?_)
    refine TO.y (Y.assign rfl) rfl rfl rfl ?_
    refine TO.nil ?_
    refine TE.next ?_
    refine TW.seq ?_
    refine TW.seq ?_
    refine TW.region ?_
    refine TO.y (Y.move rfl) rfl rfl rfl ?_
    refine TO.y (Y.lss rfl rfl) rfl rfl rfl ?_
    refine TO.nil ?_
    refine TE.next ?_
    refine TW.cond rfl (fun H17 => ?_) (fun H17 => ?_)
    · refine TW.seq ?_
      refine TW.region ?_
      refine TO.y (Y.load_box (v := .agg #[Y12.1, Y12.2.1, .int .i64 R10.Seq, Y12.2.2]) 0 kk39 rfl rfl rfl) rfl rfl rfl ?_
      refine TO.ef0 (Ef.store_box (us := [Y12.1, Y12.2.1, .int .i64 R10.Seq, Y12.2.2]) (vs' := [Y12.1, Y12.2.1, .int .i64 R10.Seq, Y12.2.2]) (is' := [.box B13 39 [Y12.1, Y12.2.1, .int .i64 R10.Seq, Y12.2.2], .own Y12.1 (lc R10.Mem), .own Y12.2.1 (lc R10.Tables), .own Y12.2.2 (lc R10.Snaps), .box B2 39 [Y12.1, Y12.2.1, .int .i64 R10.Seq, Y12.2.2], .box B1 39 [V_e0, V_e1, .int .i64 e.Seq, V_e3]]) 4 kk39 rfl rfl rfl (Cel.agg ⟨(One.can (Can.own 1 rfl)), (One.can (Can.own 2 rfl)), (One.plain rfl), (One.can (Can.own 3 rfl)), trivial⟩) rfl rfl rfl rfl) rfl rfl (fun _ => ?_)
      refine TO.y (Y.assign rfl) rfl rfl rfl ?_
      refine TO.nil ?_
      refine TE.next ?_
      refine TW.ret ?_
      refine TE.then_ret ?_
      exact TE.leaf fun _ _ hf_ hs_ => ret_any (rs := [.cell 4 39, .tmp 5]) (vs := [.agg #[Y12.1, Y12.2.1, .int .i64 R10.Seq, Y12.2.2], .bool false]) (.inl rfl) rfl (RV.cell 4 rfl rfl kk39 rfl ⟨rfl, trivial⟩) hf_ hs_ ⟨(Y12.1, Y12.2.1, Y12.2.2), rfl, hs_.pulls [1, 1, 1] rfl⟩
    · refine TW.skip ?_
      refine TE.next ?_
      refine TW.seq ?_
      refine TW.region ?_
      refine TO.y (Y.field_box kf39_3 rfl rfl) rfl rfl rfl ?_
      refine TO.y (Y.load_box (v := Y12.2.2) 0 kk34 rfl rfl rfl) rfl rfl rfl ?_
      refine TO.y (Y.move rfl) rfl rfl rfl ?_
      refine TO.y (Y.move rfl) rfl rfl rfl ?_
      refine TO.y (Y.add rfl rfl) rfl rfl rfl ?_
      refine TO.bind fun R18 H19 => ?_
      refine TO.ef (Ef.call (rest := [.box B13 39 [Y12.1, Y12.2.1, .int .i64 R10.Seq, Y12.2.2], .own Y12.1 (lc R10.Mem), .own Y12.2.1 (lc R10.Tables), .box B2 39 [.slice none 0 0, .slice none 0 0, .int .i64 (0 : Int), .slice none 0 0], .box B1 39 [V_e0, V_e1, .int .i64 e.Seq, V_e3]]) [3, 0, 0, 0, 0, 0] (slices_Delete_88240_con R10.Snaps R14 (IntKind.i64.wrap (R14 + (1 : Int))) Y12.2.2 R18 H19) kc71 rfl rfl trivial) rfl rfl rfl (fun Y20 => ?_)
      refine TO.y (Y.field_box kf39_3 rfl rfl) rfl rfl rfl ?_
      refine TO.ef0 (Ef.store_box (us := [Y20]) (vs' := [Y12.1, Y12.2.1, .int .i64 R10.Seq, Y20]) (is' := [.own Y20 (lc R18), .box B13 39 [Y12.1, Y12.2.1, .int .i64 R10.Seq, Y20], .own Y12.1 (lc R10.Mem), .own Y12.2.1 (lc R10.Tables), .box B2 39 [.slice none 0 0, .slice none 0 0, .int .i64 (0 : Int), .slice none 0 0], .box B1 39 [V_e0, V_e1, .int .i64 e.Seq, V_e3]]) 1 kk34 rfl rfl rfl (Cel.one (One.can (Can.own 0 rfl))) rfl rfl rfl rfl) rfl rfl (fun _ => ?_)
      refine TO.nil ?_
      refine TE.next ?_
      refine TW.seq ?_
      refine TW.region ?_
      refine TO.y (Y.load_box (v := .agg #[Y12.1, Y12.2.1, .int .i64 R10.Seq, Y20]) 1 kk39 rfl rfl rfl) rfl rfl rfl ?_
      refine TO.ef0 (Ef.store_box (us := [Y12.1, Y12.2.1, .int .i64 R10.Seq, Y20]) (vs' := [Y12.1, Y12.2.1, .int .i64 R10.Seq, Y20]) (is' := [.own Y20 (lc R18), .box B13 39 [Y12.1, Y12.2.1, .int .i64 R10.Seq, Y20], .own Y12.1 (lc R10.Mem), .own Y12.2.1 (lc R10.Tables), .box B2 39 [Y12.1, Y12.2.1, .int .i64 R10.Seq, Y20], .box B1 39 [V_e0, V_e1, .int .i64 e.Seq, V_e3]]) 4 kk39 rfl rfl rfl (Cel.agg ⟨(One.can (Can.own 2 rfl)), (One.can (Can.own 3 rfl)), (One.plain rfl), (One.can (Can.own 0 rfl)), trivial⟩) rfl rfl rfl rfl) rfl rfl (fun _ => ?_)
      refine TO.y (Y.assign rfl) rfl rfl rfl ?_
      refine TO.nil ?_
      refine TE.next ?_
      refine TW.ret ?_
      exact TE.leaf fun _ _ hf_ hs_ => ret_any (rs := [.cell 4 39, .tmp 5]) (vs := [.agg #[Y12.1, Y12.2.1, .int .i64 R10.Seq, Y20], .bool true]) (.inl rfl) rfl (RV.cell 4 rfl rfl kk39 rfl ⟨rfl, trivial⟩) hf_ hs_ ⟨(Y12.1, Y12.2.1, Y20), rfl, hs_.pulls [2, 2, 0] rfl⟩

/-- loop.example/g00950/laws.FnExactEngDrop -/
noncomputable def laws_FnExactEngDrop (aE : Eng) (aSnap : Int) : Option Bool :=
  (laws_szEng aE (1048576 : Int)).bind fun R2 =>
  if (decide (R2 < (0 : Int))) = true then (some true)
  else ((laws_toEng aE).bind fun R6 =>
  (spec_EngDrop R6 aSnap).bind fun R9 =>
  (impl_EngDrop R6 aSnap).bind fun R15 =>
  ((laws_eqEng R15.1 R9.1).bind fun R21 =>
  if (!R21) = true then (some true)
  else (some (!(decide (R15.2 = R9.2))))).bind (fun (T19 : Bool) =>
  if T19 = true then (some false)
  else ((laws_eqEng R6 R6).bind fun R27 =>
  if (!R27) = true then (some false)
  else ((laws_markEng R6 (1 : Int)).bind fun R31 =>
  (if (decide (R31.1 < (0 : Int))) = true then (some true)
  else ((laws_eqEng R15.1 R9.1).bind fun R37 =>
  if (!R37) = true then (some true)
  else (some (!(decide (R15.2 = R9.2)))))).bind (fun (T34 : Bool) =>
  if T34 = true then (some false)
  else ((laws_markEng R15.1 (1 : Int)).bind fun R42 =>
  (laws_heldEng ({ Mem := R42.2.1, Tables := R42.2.2.1, Seq := R15.1.Seq, Snaps := R42.2.2.2 : Eng }) (1 : Int)).bind fun R45 =>
  if (decide (R45 < (0 : Int))) = true then (some false)
  else (if (!(decide (R45 = R42.1))) = true then (some false)
  else (((laws_eqEng R15.1 R9.1).bind fun R55 =>
  if (!R55) = true then (some true)
  else (some (!(decide (R15.2 = R9.2))))).bind (fun (T53 : Bool) =>
  if T53 = true then (some false)
  else (if (decide (R45 < (0 : Int))) = true then (some false)
  else (if (!(decide (R45 = R42.1))) = true then (some false)
  else (some true))))))))))))

theorem laws_FnExactEngDrop_con (aE : Eng) (aSnap : Int) (V_aE0 : Value) (V_aE1 : Value) (V_aE3 : Value) (r : Bool) (hm : laws_FnExactEngDrop aE aSnap = some r) :
    Con Try.prog 6 [.agg #[V_aE0, V_aE1, .int .i64 aE.Seq, V_aE3], .int .i64 aSnap] [] [(V_aE0, lc aE.Mem), (V_aE1, lc aE.Tables), (V_aE3, lc aE.Snaps)] (fun _ : Unit => .bool r) (fun _ => []) := by
  refine Con.intro (args := [.agg #[V_aE0, V_aE1, .int .i64 aE.Seq, V_aE3], .int .i64 aSnap]) (n := 101) (val := fun r (_ : Unit) => .bool r) (post := fun _ _ => []) (m := laws_FnExactEngDrop aE aSnap) Try.func6 rfl rfl rfl hm ?_
  intro w S hrd
  have HB_V_aE0 := hrd _ (.head _)
  have HB_V_aE1 := hrd _ (.tail _ (.head _))
  have HB_V_aE3 := hrd _ (.tail _ (.tail _ (.head _)))
  clear hrd
  unfold laws_FnExactEngDrop
  refine TW.seq ?_
  refine TW.region ?_
  refine TO.ef (Ef.box rfl (Cel.agg ⟨(One.can (Base.can HB_V_aE0)), (One.can (Base.can HB_V_aE1)), (One.plain rfl), (One.can (Base.can HB_V_aE3)), trivial⟩)) rfl rfl rfl (fun B1 => ?_)
  refine TO.y (Y.assign rfl) rfl rfl rfl ?_
  refine TO.nil ?_
  refine TE.next ?_
  refine TW.seq ?_
  refine TW.region ?_
  refine TO.y (Y.assign rfl) rfl rfl rfl ?_
  refine TO.nil ?_
  refine TE.next ?_
  refine TW.seq ?_
  refine TW.region ?_
  refine TO.y (Y.load_box (v := .agg #[V_aE0, V_aE1, .int .i64 aE.Seq, V_aE3]) 0 kk36 rfl rfl rfl) rfl rfl rfl ?_
  refine TO.y (Y.move rfl) rfl rfl rfl ?_
  refine TO.bind fun R2 H3 => ?_
  refine TO.ef (Ef.call (rest := [.box B1 36 [V_aE0, V_aE1, .int .i64 aE.Seq, V_aE3]]) [0] (laws_szEng_con aE (1048576 : Int) V_aE0 V_aE1 V_aE3 R2 H3) kc18 rfl rfl ⟨(Base.can HB_V_aE0), (Base.can HB_V_aE1), (Base.can HB_V_aE3), trivial⟩) rfl rfl rfl (fun _ => ?_)
  refine TO.y (Y.assign rfl) rfl rfl rfl ?_
  refine TO.nil ?_
  refine TE.next ?_
  refine TW.seq ?_
  refine TW.seq ?_
  refine TW.region ?_
  refine TO.y (Y.move rfl) rfl rfl rfl ?_
  refine TO.y (Y.lss rfl rfl) rfl rfl rfl ?_
  refine TO.nil ?_
  refine TE.next ?_
  refine TW.cond rfl (fun H5 => ?_) (fun H5 => ?_)
  · refine TW.seq ?_
    refine TW.region ?_
    refine TO.y (Y.assign rfl) rfl rfl rfl ?_
    refine TO.nil ?_
    refine TE.next ?_
    refine TW.ret ?_
    refine TE.then_ret ?_
    exact TE.leaf fun _ _ hf_ hs_ => ret_any (rs := [.tmp 4]) (vs := [.bool true]) (.inl rfl) rfl ⟨rfl, trivial⟩ hf_ hs_ ⟨(), rfl, hs_.pulls [] rfl⟩
  · refine TW.skip ?_
    refine TE.next ?_
    refine TW.seq ?_
    refine TW.region ?_
    refine TO.y (Y.load_box (v := .agg #[V_aE0, V_aE1, .int .i64 aE.Seq, V_aE3]) 0 kk36 rfl rfl rfl) rfl rfl rfl ?_
    refine TO.bind fun R6 H7 => ?_
    refine TO.ef (Ef.call (rest := [.box B1 36 [V_aE0, V_aE1, .int .i64 aE.Seq, V_aE3]]) [0] (laws_toEng_con aE V_aE0 V_aE1 V_aE3 R6 H7) kc20 rfl rfl ⟨(Base.can HB_V_aE0), (Base.can HB_V_aE1), (Base.can HB_V_aE3), trivial⟩) rfl rfl rfl (fun Y8 => ?_)
    refine TO.y (Y.move rfl) rfl rfl rfl ?_
    refine TO.bind fun R9 H10 => ?_
    refine TO.ef (Ef.call (rest := [.own Y8.1 (lc R6.Mem), .own Y8.2.1 (lc R6.Tables), .own Y8.2.2 (lc R6.Snaps), .box B1 36 [V_aE0, V_aE1, .int .i64 aE.Seq, V_aE3]]) [0, 0, 0, 0] (spec_EngDrop_con R6 aSnap Y8.1 Y8.2.1 Y8.2.2 R9 H10) kc30 rfl rfl ⟨(Can.own 0 rfl), (Can.own 1 rfl), (Can.own 2 rfl), trivial⟩) rfl rfl rfl (fun Y11 => ?_)
    refine TO.y (Y.move rfl) rfl rfl rfl ?_
    refine TO.y (Y.extract rfl rfl) rfl rfl rfl ?_
    refine TO.y (Y.extract rfl rfl) rfl rfl rfl ?_
    refine TO.ef (Ef.alloc kz39 rfl) rfl rfl rfl (fun B12 => ?_)
    refine TO.ef0 (Ef.store_box (us := [Y11.1, Y11.2.1, .int .i64 R9.1.Seq, Y11.2.2]) (vs' := [Y11.1, Y11.2.1, .int .i64 R9.1.Seq, Y11.2.2]) (is' := [.box B12 39 [Y11.1, Y11.2.1, .int .i64 R9.1.Seq, Y11.2.2], .own Y11.1 (lc R9.1.Mem), .own Y11.2.1 (lc R9.1.Tables), .own Y11.2.2 (lc R9.1.Snaps), .own Y8.1 (lc R6.Mem), .own Y8.2.1 (lc R6.Tables), .own Y8.2.2 (lc R6.Snaps), .box B1 36 [V_aE0, V_aE1, .int .i64 aE.Seq, V_aE3]]) 0 kk39 rfl rfl rfl (Cel.agg ⟨(One.can (Can.own 1 rfl)), (One.can (Can.own 2 rfl)), (One.plain rfl), (One.can (Can.own 3 rfl)), trivial⟩) rfl rfl rfl rfl) rfl rfl (fun _ => ?_)
    refine TO.y (Y.assign rfl) rfl rfl rfl ?_
    refine TO.nil ?_
    refine TE.next ?_
    refine TW.seq ?_
    refine TW.region ?_
    refine TO.y (Y.load_box (v := .agg #[V_aE0, V_aE1, .int .i64 aE.Seq, V_aE3]) 7 kk36 rfl rfl rfl) rfl rfl rfl ?_
    refine TO.ef (Ef.call (rest := [.box B12 39 [Y11.1, Y11.2.1, .int .i64 R9.1.Seq, Y11.2.2], .own Y11.1 (lc R9.1.Mem), .own Y11.2.1 (lc R9.1.Tables), .own Y11.2.2 (lc R9.1.Snaps), .own Y8.1 (lc R6.Mem), .own Y8.2.1 (lc R6.Tables), .own Y8.2.2 (lc R6.Snaps), .box B1 36 [V_aE0, V_aE1, .int .i64 aE.Seq, V_aE3]]) [0, 0, 0, 0, 0, 0, 0, 0] (laws_toEng_con aE V_aE0 V_aE1 V_aE3 R6 H7) kc20 rfl rfl ⟨(Base.can HB_V_aE0), (Base.can HB_V_aE1), (Base.can HB_V_aE3), trivial⟩) rfl rfl rfl (fun Y13 => ?_)
    refine TO.ef (Ef.alloc kz39 rfl) rfl rfl rfl (fun B14 => ?_)
    refine TO.ef0 (Ef.store_box (us := [Y13.1, Y13.2.1, .int .i64 R6.Seq, Y13.2.2]) (vs' := [Y13.1, Y13.2.1, .int .i64 R6.Seq, Y13.2.2]) (is' := [.box B14 39 [Y13.1, Y13.2.1, .int .i64 R6.Seq, Y13.2.2], .own Y13.1 (lc R6.Mem), .own Y13.2.1 (lc R6.Tables), .own Y13.2.2 (lc R6.Snaps), .box B12 39 [Y11.1, Y11.2.1, .int .i64 R9.1.Seq, Y11.2.2], .own Y11.1 (lc R9.1.Mem), .own Y11.2.1 (lc R9.1.Tables), .own Y11.2.2 (lc R9.1.Snaps), .own Y8.1 (lc R6.Mem), .own Y8.2.1 (lc R6.Tables), .own Y8.2.2 (lc R6.Snaps), .box B1 36 [V_aE0, V_aE1, .int .i64 aE.Seq, V_aE3]]) 0 kk39 rfl rfl rfl (Cel.agg ⟨(One.can (Can.own 1 rfl)), (One.can (Can.own 2 rfl)), (One.plain rfl), (One.can (Can.own 3 rfl)), trivial⟩) rfl rfl rfl rfl) rfl rfl (fun _ => ?_)
    refine TO.nil ?_
    refine TE.next ?_
    refine TW.seq ?_
    refine TW.region ?_
    refine TO.y (Y.load_box (v := .agg #[Y13.1, Y13.2.1, .int .i64 R6.Seq, Y13.2.2]) 0 kk39 rfl rfl rfl) rfl rfl rfl ?_
    refine TO.y (Y.move rfl) rfl rfl rfl ?_
    refine TO.bind fun R15 H16 => ?_
    refine TO.ef (Ef.call (rest := [.box B14 39 [Y13.1, Y13.2.1, .int .i64 R6.Seq, Y13.2.2], .own Y13.1 (lc R6.Mem), .own Y13.2.1 (lc R6.Tables), .own Y13.2.2 (lc R6.Snaps), .box B12 39 [Y11.1, Y11.2.1, .int .i64 R9.1.Seq, Y11.2.2], .own Y11.1 (lc R9.1.Mem), .own Y11.2.1 (lc R9.1.Tables), .own Y11.2.2 (lc R9.1.Snaps), .own Y8.1 (lc R6.Mem), .own Y8.2.1 (lc R6.Tables), .own Y8.2.2 (lc R6.Snaps), .box B1 36 [V_aE0, V_aE1, .int .i64 aE.Seq, V_aE3]]) [0, 0, 0, 0, 0, 0, 0, 0, 0, 0, 0, 0] (impl_EngDrop_con R6 aSnap Y13.1 Y13.2.1 Y13.2.2 R15 H16) kc31 rfl rfl ⟨(Can.own 1 rfl), (Can.own 2 rfl), (Can.own 3 rfl), trivial⟩) rfl rfl rfl (fun Y17 => ?_)
    refine TO.y (Y.move rfl) rfl rfl rfl ?_
    refine TO.y (Y.extract rfl rfl) rfl rfl rfl ?_
    refine TO.y (Y.extract rfl rfl) rfl rfl rfl ?_
    refine TO.ef (Ef.alloc kz39 rfl) rfl rfl rfl (fun B18 => ?_)
    refine TO.ef0 (Ef.store_box (us := [Y17.1, Y17.2.1, .int .i64 R15.1.Seq, Y17.2.2]) (vs' := [Y17.1, Y17.2.1, .int .i64 R15.1.Seq, Y17.2.2]) (is' := [.box B18 39 [Y17.1, Y17.2.1, .int .i64 R15.1.Seq, Y17.2.2], .own Y17.1 (lc R15.1.Mem), .own Y17.2.1 (lc R15.1.Tables), .own Y17.2.2 (lc R15.1.Snaps), .box B14 39 [Y13.1, Y13.2.1, .int .i64 R6.Seq, Y13.2.2], .own Y13.1 (lc R6.Mem), .own Y13.2.1 (lc R6.Tables), .own Y13.2.2 (lc R6.Snaps), .box B12 39 [Y11.1, Y11.2.1, .int .i64 R9.1.Seq, Y11.2.2], .own Y11.1 (lc R9.1.Mem), .own Y11.2.1 (lc R9.1.Tables), .own Y11.2.2 (lc R9.1.Snaps), .own Y8.1 (lc R6.Mem), .own Y8.2.1 (lc R6.Tables), .own Y8.2.2 (lc R6.Snaps), .box B1 36 [V_aE0, V_aE1, .int .i64 aE.Seq, V_aE3]]) 0 kk39 rfl rfl rfl (Cel.agg ⟨(One.can (Can.own 1 rfl)), (One.can (Can.own 2 rfl)), (One.plain rfl), (One.can (Can.own 3 rfl)), trivial⟩) rfl rfl rfl rfl) rfl rfl (fun _ => ?_)
    refine TO.y (Y.assign rfl) rfl rfl rfl ?_
    refine TO.nil ?_
    refine TE.next ?_
    refine TW.seq ?_
    refine TW.seq ?_
    refine TW.joinBX (τ := Bool) (X := Unit) (fun T _ => [(1, .int .i64 aSnap), (2, .pointer (some ⟨B1, 0, none⟩)), (6, .pointer (some ⟨B12, 0, none⟩)), (7, .bool R9.2), (8, .pointer (some ⟨B14, 0, none⟩)), (9, .pointer (some ⟨B18, 0, none⟩)), (10, .bool R15.2), (44, .bool T)]) (fun _ _ => [.box B1 36 [V_aE0, V_aE1, .int .i64 aE.Seq, V_aE3], .box B12 39 [Y11.1, Y11.2.1, .int .i64 R9.1.Seq, Y11.2.2], .box B14 39 [Y13.1, Y13.2.1, .int .i64 R6.Seq, Y13.2.2], .box B18 39 [Y17.1, Y17.2.1, .int .i64 R15.1.Seq, Y17.2.2], .own Y11.1 (lc R9.1.Mem), .own Y11.2.1 (lc R9.1.Tables), .own Y11.2.2 (lc R9.1.Snaps), .own Y13.1 (lc R6.Mem), .own Y13.2.1 (lc R6.Tables), .own Y13.2.2 (lc R6.Snaps), .own Y17.1 (lc R15.1.Mem), .own Y17.2.1 (lc R15.1.Tables), .own Y17.2.2 (lc R15.1.Snaps)]) ?_ (fun T19 X20 => ?_)
    · refine TW.region ?_
      refine TO.y (Y.load_box (v := .agg #[Y17.1, Y17.2.1, .int .i64 R15.1.Seq, Y17.2.2]) 0 kk39 rfl rfl rfl) rfl rfl rfl ?_
      refine TO.y (Y.load_box (v := .agg #[Y11.1, Y11.2.1, .int .i64 R9.1.Seq, Y11.2.2]) 8 kk39 rfl rfl rfl) rfl rfl rfl ?_
      refine TO.bind fun R21 H22 => ?_
      refine TO.ef (Ef.call (rest := [.box B18 39 [Y17.1, Y17.2.1, .int .i64 R15.1.Seq, Y17.2.2], .own Y17.1 (lc R15.1.Mem), .own Y17.2.1 (lc R15.1.Tables), .own Y17.2.2 (lc R15.1.Snaps), .box B14 39 [Y13.1, Y13.2.1, .int .i64 R6.Seq, Y13.2.2], .own Y13.1 (lc R6.Mem), .own Y13.2.1 (lc R6.Tables), .own Y13.2.2 (lc R6.Snaps), .box B12 39 [Y11.1, Y11.2.1, .int .i64 R9.1.Seq, Y11.2.2], .own Y11.1 (lc R9.1.Mem), .own Y11.2.1 (lc R9.1.Tables), .own Y11.2.2 (lc R9.1.Snaps), .own Y8.1 (lc R6.Mem), .own Y8.2.1 (lc R6.Tables), .own Y8.2.2 (lc R6.Snaps), .box B1 36 [V_aE0, V_aE1, .int .i64 aE.Seq, V_aE3]]) [0, 0, 0, 0, 0, 0, 0, 0, 0, 0, 0, 0, 0, 0, 0, 0] (laws_eqEng_con R15.1 R9.1 Y17.1 Y17.2.1 Y17.2.2 Y11.1 Y11.2.1 Y11.2.2 R21 H22) kc22 rfl rfl ⟨(Can.own 1 rfl), (Can.own 2 rfl), (Can.own 3 rfl), (Can.own 9 rfl), (Can.own 10 rfl), (Can.own 11 rfl), trivial⟩) rfl rfl rfl (fun _ => ?_)
      refine TO.y (Y.not rfl) rfl rfl rfl ?_
      refine TO.y (Y.move rfl) rfl rfl rfl ?_
      refine TO.ite (b := !R21) (fun H24 => ?_) (fun H24 => ?_)
      · refine TO.off (Gd.at 4 false 40 (!R21) rfl rfl rfl (beq_tf H24)) rfl rfl ?_
        refine TO.off (Gd.at 4 false 40 (!R21) rfl rfl rfl (beq_tf H24)) rfl rfl ?_
        refine TO.off (Gd.at 4 false 40 (!R21) rfl rfl rfl (beq_tf H24)) rfl rfl ?_
        refine TO.y (Y.pick_t H24 rfl rfl) rfl rfl rfl ?_
        refine TO.nil ?_
        exact TE.jb_go () [15, 8, 4, 0, 6, 6, 6, 3, 3, 3, 0, 0, 0] ⟨rfl, rfl, rfl, rfl, rfl, rfl, rfl, rfl, trivial⟩ rfl
      · refine TO.y (Y.move rfl) (Gd.at 4 false 40 (!R21) rfl rfl rfl (beq_ff H24)) rfl rfl ?_
        refine TO.y (Y.move rfl) (Gd.at 4 false 40 (!R21) rfl rfl rfl (beq_ff H24)) rfl rfl ?_
        refine TO.y (Y.neb kb4 rfl rfl) (Gd.at 4 false 40 (!R21) rfl rfl rfl (beq_ff H24)) rfl rfl ?_
        refine TO.y (Y.pick_f H24 rfl rfl) rfl rfl rfl ?_
        refine TO.nil ?_
        exact TE.jb_go () [15, 8, 4, 0, 6, 6, 6, 3, 3, 3, 0, 0, 0] ⟨rfl, rfl, rfl, rfl, rfl, rfl, rfl, rfl, trivial⟩ rfl
    · refine TE.next ?_
      refine TW.cond rfl (fun H25 => ?_) (fun H25 => ?_)
      · refine TW.seq ?_
        refine TW.region ?_
        refine TO.y (Y.assign rfl) rfl rfl rfl ?_
        refine TO.nil ?_
        refine TE.next ?_
        refine TW.ret ?_
        refine TE.then_ret ?_
        exact TE.leaf fun _ _ hf_ hs_ => ret_any (rs := [.tmp 4]) (vs := [.bool false]) (.inl rfl) rfl ⟨rfl, trivial⟩ hf_ hs_ ⟨(), rfl, hs_.pulls [] rfl⟩
      · refine TW.skip ?_
        refine TE.next ?_
        refine TW.seq ?_
        refine TW.seq ?_
        refine TW.draw (isH := [.box B1 36 [V_aE0, V_aE1, .int .i64 aE.Seq, V_aE3], .box B12 39 [Y11.1, Y11.2.1, .int .i64 R9.1.Seq, Y11.2.2], .box B14 39 [Y13.1, Y13.2.1, .int .i64 R6.Seq, Y13.2.2], .box B18 39 [Y17.1, Y17.2.1, .int .i64 R15.1.Seq, Y17.2.2], .own Y11.1 (lc R9.1.Mem), .own Y11.2.1 (lc R9.1.Tables), .own Y11.2.2 (lc R9.1.Snaps), .own Y13.1 (lc R6.Mem), .own Y13.2.1 (lc R6.Tables), .own Y13.2.2 (lc R6.Snaps), .own Y17.1 (lc R15.1.Mem), .own Y17.2.1 (lc R15.1.Tables), .own Y17.2.2 (lc R15.1.Snaps)]) hMix ?_
        refine TA.y (listed' := #[true, false, false, false, false]) 0 [0, 0, 0, 0, 0, 0, 0, 0, 0, 0, 0, 0, 0] rfl (Y.load_box (v := .agg #[Y13.1, Y13.2.1, .int .i64 R6.Seq, Y13.2.2]) 2 kk39 rfl rfl rfl) rfl rfl rfl (by kernel_rfl) (by kernel_rfl) (by kernel_rfl) rfl rfl ?_
        refine TA.y (listed' := #[true, true, false, false, false]) 1 [0, 0, 0, 0, 0, 0, 0, 0, 0, 0, 0, 0, 0] rfl (Y.load_box (v := .agg #[V_aE0, V_aE1, .int .i64 aE.Seq, V_aE3]) 0 kk36 rfl rfl rfl) rfl rfl rfl (by kernel_rfl) (by kernel_rfl) (by kernel_rfl) rfl rfl ?_
        refine TA.one 2 (by kernel_rfl) ?_
        refine TX.ef (listed' := #[true, true, true, false, false]) [3, 3, 3, 3, 3, 3, 3, 3, 3, 3, 3, 3, 3] rfl (Ef.call (rest := [.box B1 36 [V_aE0, V_aE1, .int .i64 aE.Seq, V_aE3], .box B12 39 [Y11.1, Y11.2.1, .int .i64 R9.1.Seq, Y11.2.2], .box B14 39 [Y13.1, Y13.2.1, .int .i64 R6.Seq, Y13.2.2], .box B18 39 [Y17.1, Y17.2.1, .int .i64 R15.1.Seq, Y17.2.2], .own Y11.1 (lc R9.1.Mem), .own Y11.2.1 (lc R9.1.Tables), .own Y11.2.2 (lc R9.1.Snaps), .own Y13.1 (lc R6.Mem), .own Y13.2.1 (lc R6.Tables), .own Y13.2.2 (lc R6.Snaps), .own Y17.1 (lc R15.1.Mem), .own Y17.2.1 (lc R15.1.Tables), .own Y17.2.2 (lc R15.1.Snaps)]) [0, 0, 0, 0, 0, 0, 0, 0, 0, 0, 0, 0, 0] (laws_toEng_con aE V_aE0 V_aE1 V_aE3 R6 H7) kc20 rfl rfl ⟨(Base.can HB_V_aE0), (Base.can HB_V_aE1), (Base.can HB_V_aE3), trivial⟩) rfl rfl rfl rfl (fun _ => rfl) (fun Y26 => ?_)
        refine TA.bind fun R27 H28 => ?_
        refine TA.one 3 (by kernel_rfl) ?_
        refine TX.ef (listed' := #[true, true, true, true, false]) [3, 3, 3, 3, 3, 3, 3, 3, 3, 3, 3, 3, 3] rfl (Ef.call (rest := [.own Y26.1 (lc R6.Mem), .own Y26.2.1 (lc R6.Tables), .own Y26.2.2 (lc R6.Snaps), .box B1 36 [V_aE0, V_aE1, .int .i64 aE.Seq, V_aE3], .box B12 39 [Y11.1, Y11.2.1, .int .i64 R9.1.Seq, Y11.2.2], .box B14 39 [Y13.1, Y13.2.1, .int .i64 R6.Seq, Y13.2.2], .box B18 39 [Y17.1, Y17.2.1, .int .i64 R15.1.Seq, Y17.2.2], .own Y11.1 (lc R9.1.Mem), .own Y11.2.1 (lc R9.1.Tables), .own Y11.2.2 (lc R9.1.Snaps), .own Y13.1 (lc R6.Mem), .own Y13.2.1 (lc R6.Tables), .own Y13.2.2 (lc R6.Snaps), .own Y17.1 (lc R15.1.Mem), .own Y17.2.1 (lc R15.1.Tables), .own Y17.2.2 (lc R15.1.Snaps)]) [0, 0, 0, 0, 0, 0, 0, 0, 0, 0, 0, 0, 0, 0, 0, 0] (laws_eqEng_con R6 R6 Y13.1 Y13.2.1 Y13.2.2 Y26.1 Y26.2.1 Y26.2.2 R27 H28) kc22 rfl rfl ⟨(Can.own 10 rfl), (Can.own 11 rfl), (Can.own 12 rfl), (Can.own 0 rfl), (Can.own 1 rfl), (Can.own 2 rfl), trivial⟩) rfl rfl rfl rfl (fun _ => rfl) (fun _ => ?_)
        refine TA.y (listed' := #[true, true, true, true, true]) 4 [3, 3, 3, 3, 3, 3, 3, 3, 3, 3, 3, 3, 3] rfl (Y.not rfl) rfl rfl rfl (by kernel_rfl) (by kernel_rfl) (by kernel_rfl) rfl rfl ?_
        refine TA.nil (by kernel_rfl) ?_
        refine TE.next ?_
        refine TW.cond rfl (fun H30 => ?_) (fun H30 => ?_)
        · refine TW.seq ?_
          refine TW.region ?_
          refine TO.y (Y.assign rfl) rfl rfl rfl ?_
          refine TO.nil ?_
          refine TE.next ?_
          refine TW.ret ?_
          refine TE.then_ret ?_
          exact TE.leaf fun _ _ hf_ hs_ => ret_any (rs := [.tmp 4]) (vs := [.bool false]) (.inl rfl) rfl ⟨rfl, trivial⟩ hf_ hs_ ⟨(), rfl, hs_.pulls [] rfl⟩
        · refine TW.skip ?_
          refine TE.next ?_
          refine TW.seq ?_
          refine TW.region ?_
          refine TO.y (Y.assign rfl) rfl rfl rfl ?_
          refine TO.nil ?_
          refine TE.next ?_
          refine TW.seq ?_
          refine TW.region ?_
          refine TO.y (Y.load_box (v := .agg #[Y13.1, Y13.2.1, .int .i64 R6.Seq, Y13.2.2]) 5 kk39 rfl rfl rfl) rfl rfl rfl ?_
          refine TO.y (Y.move rfl) rfl rfl rfl ?_
          refine TO.bind fun R31 H32 => ?_
          refine TO.ef (Ef.call (rest := [.own Y26.1 (lc R6.Mem), .own Y26.2.1 (lc R6.Tables), .own Y26.2.2 (lc R6.Snaps), .box B1 36 [V_aE0, V_aE1, .int .i64 aE.Seq, V_aE3], .box B12 39 [Y11.1, Y11.2.1, .int .i64 R9.1.Seq, Y11.2.2], .box B14 39 [Y13.1, Y13.2.1, .int .i64 R6.Seq, Y13.2.2], .box B18 39 [Y17.1, Y17.2.1, .int .i64 R15.1.Seq, Y17.2.2], .own Y11.1 (lc R9.1.Mem), .own Y11.2.1 (lc R9.1.Tables), .own Y11.2.2 (lc R9.1.Snaps), .own Y17.1 (lc R15.1.Mem), .own Y17.2.1 (lc R15.1.Tables), .own Y17.2.2 (lc R15.1.Snaps)]) [10, 10, 10, 0, 0, 0, 0, 0, 0, 0, 0, 0, 0, 0, 0, 0] (laws_markEng_con R6 (1 : Int) Y13.1 Y13.2.1 Y13.2.2 R31 H32) kc23 rfl rfl trivial) rfl rfl rfl (fun _ => ?_)
          refine TO.y (Y.assign rfl) rfl rfl rfl ?_
          refine TO.nil ?_
          refine TE.next ?_
          refine TW.seq ?_
          refine TW.seq ?_
          refine TW.joinBX (τ := Bool) (X := Unit) (fun T _ => [(1, .int .i64 aSnap), (2, .pointer (some ⟨B1, 0, none⟩)), (6, .pointer (some ⟨B12, 0, none⟩)), (7, .bool R9.2), (9, .pointer (some ⟨B18, 0, none⟩)), (65, .bool T)]) (fun _ _ => [.box B1 36 [V_aE0, V_aE1, .int .i64 aE.Seq, V_aE3], .box B12 39 [Y11.1, Y11.2.1, .int .i64 R9.1.Seq, Y11.2.2], .box B18 39 [Y17.1, Y17.2.1, .int .i64 R15.1.Seq, Y17.2.2], .own Y11.1 (lc R9.1.Mem), .own Y11.2.1 (lc R9.1.Tables), .own Y11.2.2 (lc R9.1.Snaps), .own Y17.1 (lc R15.1.Mem), .own Y17.2.1 (lc R15.1.Tables), .own Y17.2.2 (lc R15.1.Snaps)]) ?_ (fun T34 X35 => ?_)
          · refine TW.region ?_
            refine TO.y (Y.move rfl) rfl rfl rfl ?_
            refine TO.y (Y.lss rfl rfl) rfl rfl rfl ?_
            refine TO.y (Y.move rfl) rfl rfl rfl ?_
            refine TO.ite (b := decide (R31.1 < (0 : Int))) (fun H36 => ?_) (fun H36 => ?_)
            · refine TO.off (Gd.at 2 false 55 (decide (R31.1 < (0 : Int))) rfl rfl rfl (beq_tf H36)) rfl rfl ?_
              refine TO.off (Gd.at 2 false 55 (decide (R31.1 < (0 : Int))) rfl rfl rfl (beq_tf H36)) rfl rfl ?_
              refine TO.off (Gd.at 2 false 55 (decide (R31.1 < (0 : Int))) rfl rfl rfl (beq_tf H36)) rfl rfl ?_
              refine TO.off (Gd.at 2 false 55 (decide (R31.1 < (0 : Int))) rfl rfl rfl (beq_tf H36)) rfl rfl ?_
              refine TO.y (Y.pick_t H36 rfl rfl) rfl rfl rfl ?_
              refine TO.y (Y.move rfl) rfl rfl rfl ?_
              refine TO.off (Gd.at 8 false 61 true rfl rfl rfl rfl) rfl rfl ?_
              refine TO.off (Gd.at 8 false 61 true rfl rfl rfl rfl) rfl rfl ?_
              refine TO.off (Gd.at 8 false 61 true rfl rfl rfl rfl) rfl rfl ?_
              refine TO.y (Y.pick_t rfl rfl rfl) rfl rfl rfl ?_
              refine TO.nil ?_
              exact TE.jb_go () [6, 6, 7, 7, 7, 7, 7, 7, 7] ⟨rfl, rfl, rfl, rfl, rfl, rfl, trivial⟩ rfl
            · refine TO.y (Y.load_box (v := .agg #[Y17.1, Y17.2.1, .int .i64 R15.1.Seq, Y17.2.2]) 9 kk39 rfl rfl rfl) (Gd.at 2 false 55 (decide (R31.1 < (0 : Int))) rfl rfl rfl (beq_ff H36)) rfl rfl ?_
              refine TO.y (Y.load_box (v := .agg #[Y11.1, Y11.2.1, .int .i64 R9.1.Seq, Y11.2.2]) 7 kk39 rfl rfl rfl) (Gd.at 2 false 55 (decide (R31.1 < (0 : Int))) rfl rfl rfl (beq_ff H36)) rfl rfl ?_
              refine TO.bind fun R37 H38 => ?_
              refine TO.ef (Ef.call (rest := [.own Y13.1 (lc R31.2.1), .own Y13.2.1 (lc R31.2.2.1), .own Y13.2.2 (lc R31.2.2.2), .own Y26.1 (lc R6.Mem), .own Y26.2.1 (lc R6.Tables), .own Y26.2.2 (lc R6.Snaps), .box B1 36 [V_aE0, V_aE1, .int .i64 aE.Seq, V_aE3], .box B12 39 [Y11.1, Y11.2.1, .int .i64 R9.1.Seq, Y11.2.2], .box B14 39 [Y13.1, Y13.2.1, .int .i64 R6.Seq, Y13.2.2], .box B18 39 [Y17.1, Y17.2.1, .int .i64 R15.1.Seq, Y17.2.2], .own Y11.1 (lc R9.1.Mem), .own Y11.2.1 (lc R9.1.Tables), .own Y11.2.2 (lc R9.1.Snaps), .own Y17.1 (lc R15.1.Mem), .own Y17.2.1 (lc R15.1.Tables), .own Y17.2.2 (lc R15.1.Snaps)]) [0, 0, 0, 0, 0, 0, 0, 0, 0, 0, 0, 0, 0, 0, 0, 0] (laws_eqEng_con R15.1 R9.1 Y17.1 Y17.2.1 Y17.2.2 Y11.1 Y11.2.1 Y11.2.2 R37 H38) kc22 rfl rfl ⟨(Can.own 13 rfl), (Can.own 14 rfl), (Can.own 15 rfl), (Can.own 10 rfl), (Can.own 11 rfl), (Can.own 12 rfl), trivial⟩) (Gd.at 2 false 55 (decide (R31.1 < (0 : Int))) rfl rfl rfl (beq_ff H36)) rfl rfl (fun _ => ?_)
              refine TO.y (Y.not rfl) (Gd.at 2 false 55 (decide (R31.1 < (0 : Int))) rfl rfl rfl (beq_ff H36)) rfl rfl ?_
              refine TO.y (Y.pick_f H36 rfl rfl) rfl rfl rfl ?_
              refine TO.y (Y.move rfl) rfl rfl rfl ?_
              refine TO.ite (b := !R37) (fun H40 => ?_) (fun H40 => ?_)
              · refine TO.off (Gd.at 8 false 61 (!R37) rfl rfl rfl (beq_tf H40)) rfl rfl ?_
                refine TO.off (Gd.at 8 false 61 (!R37) rfl rfl rfl (beq_tf H40)) rfl rfl ?_
                refine TO.off (Gd.at 8 false 61 (!R37) rfl rfl rfl (beq_tf H40)) rfl rfl ?_
                refine TO.y (Y.pick_t H40 rfl rfl) rfl rfl rfl ?_
                refine TO.nil ?_
                exact TE.jb_go () [6, 6, 7, 7, 7, 7, 7, 7, 7] ⟨rfl, rfl, rfl, rfl, rfl, rfl, trivial⟩ rfl
              · refine TO.y (Y.move rfl) (Gd.at 8 false 61 (!R37) rfl rfl rfl (beq_ff H40)) rfl rfl ?_
                refine TO.y (Y.move rfl) (Gd.at 8 false 61 (!R37) rfl rfl rfl (beq_ff H40)) rfl rfl ?_
                refine TO.y (Y.neb kb4 rfl rfl) (Gd.at 8 false 61 (!R37) rfl rfl rfl (beq_ff H40)) rfl rfl ?_
                refine TO.y (Y.pick_f H40 rfl rfl) rfl rfl rfl ?_
                refine TO.nil ?_
                exact TE.jb_go () [6, 6, 7, 7, 7, 7, 7, 7, 7] ⟨rfl, rfl, rfl, rfl, rfl, rfl, trivial⟩ rfl
          · refine TE.next ?_
            refine TW.cond rfl (fun H41 => ?_) (fun H41 => ?_)
            · refine TW.seq ?_
              refine TW.region ?_
              refine TO.y (Y.assign rfl) rfl rfl rfl ?_
              refine TO.nil ?_
              refine TE.next ?_
              refine TW.ret ?_
              refine TE.then_ret ?_
              exact TE.leaf fun _ _ hf_ hs_ => ret_any (rs := [.tmp 4]) (vs := [.bool false]) (.inl rfl) rfl ⟨rfl, trivial⟩ hf_ hs_ ⟨(), rfl, hs_.pulls [] rfl⟩
            · refine TW.skip ?_
              refine TE.next ?_
              refine TW.seq ?_
              refine TW.region ?_
              refine TO.y (Y.assign rfl) rfl rfl rfl ?_
              refine TO.nil ?_
              refine TE.next ?_
              refine TW.seq ?_
              refine TW.region ?_
              refine TO.y (Y.load_box (v := .agg #[Y17.1, Y17.2.1, .int .i64 R15.1.Seq, Y17.2.2]) 2 kk39 rfl rfl rfl) rfl rfl rfl ?_
              refine TO.y (Y.move rfl) rfl rfl rfl ?_
              refine TO.bind fun R42 H43 => ?_
              refine TO.ef (Ef.call (rest := [.box B1 36 [V_aE0, V_aE1, .int .i64 aE.Seq, V_aE3], .box B12 39 [Y11.1, Y11.2.1, .int .i64 R9.1.Seq, Y11.2.2], .box B18 39 [Y17.1, Y17.2.1, .int .i64 R15.1.Seq, Y17.2.2], .own Y11.1 (lc R9.1.Mem), .own Y11.2.1 (lc R9.1.Tables), .own Y11.2.2 (lc R9.1.Snaps)]) [6, 6, 6, 0, 0, 0, 0, 0, 0] (laws_markEng_con R15.1 (1 : Int) Y17.1 Y17.2.1 Y17.2.2 R42 H43) kc23 rfl rfl trivial) rfl rfl rfl (fun _ => ?_)
              refine TO.y (Y.assign rfl) rfl rfl rfl ?_
              refine TO.nil ?_
              refine TE.next ?_
              refine TW.seq ?_
              refine TW.region ?_
              refine TO.y (Y.assign rfl) rfl rfl rfl ?_
              refine TO.nil ?_
              refine TE.next ?_
              refine TW.seq ?_
              refine TW.region ?_
              refine TO.y (Y.load_box (v := .agg #[Y17.1, Y17.2.1, .int .i64 R15.1.Seq, Y17.2.2]) 5 kk39 rfl rfl rfl) rfl rfl rfl ?_
              refine TO.y (Y.move rfl) rfl rfl rfl ?_
              refine TO.bind fun R45 H46 => ?_
              refine TO.ef (Ef.call (rest := [.own Y17.1 (lc R42.2.1), .own Y17.2.1 (lc R42.2.2.1), .own Y17.2.2 (lc R42.2.2.2), .box B1 36 [V_aE0, V_aE1, .int .i64 aE.Seq, V_aE3], .box B12 39 [Y11.1, Y11.2.1, .int .i64 R9.1.Seq, Y11.2.2], .box B18 39 [Y17.1, Y17.2.1, .int .i64 R15.1.Seq, Y17.2.2], .own Y11.1 (lc R9.1.Mem), .own Y11.2.1 (lc R9.1.Tables), .own Y11.2.2 (lc R9.1.Snaps)]) [0, 0, 0, 0, 0, 0, 0, 0, 0] (laws_heldEng_con ({ Mem := R42.2.1, Tables := R42.2.2.1, Seq := R15.1.Seq, Snaps := R42.2.2.2 : Eng }) (1 : Int) Y17.1 Y17.2.1 Y17.2.2 R45 H46) kc24 rfl rfl ⟨(Can.own 0 rfl), (Can.own 1 rfl), (Can.own 2 rfl), trivial⟩) rfl rfl rfl (fun _ => ?_)
              refine TO.y (Y.assign rfl) rfl rfl rfl ?_
              refine TO.nil ?_
              refine TE.next ?_
              refine TW.seq ?_
              refine TW.seq ?_
              refine TW.region ?_
              refine TO.y (Y.move rfl) rfl rfl rfl ?_
              refine TO.y (Y.lss rfl rfl) rfl rfl rfl ?_
              refine TO.nil ?_
              refine TE.next ?_
              refine TW.cond rfl (fun H48 => ?_) (fun H48 => ?_)
              · refine TW.seq ?_
                refine TW.region ?_
                refine TO.y (Y.assign rfl) rfl rfl rfl ?_
                refine TO.nil ?_
                refine TE.next ?_
                refine TW.ret ?_
                refine TE.then_ret ?_
                exact TE.leaf fun _ _ hf_ hs_ => ret_any (rs := [.tmp 4]) (vs := [.bool false]) (.inl rfl) rfl ⟨rfl, trivial⟩ hf_ hs_ ⟨(), rfl, hs_.pulls [] rfl⟩
              · refine TW.skip ?_
                refine TE.next ?_
                refine TW.seq ?_
                refine TW.seq ?_
                refine TW.region ?_
                refine TO.y (Y.move rfl) rfl rfl rfl ?_
                refine TO.y (Y.move rfl) rfl rfl rfl ?_
                refine TO.y (Y.neq rfl rfl) rfl rfl rfl ?_
                refine TO.nil ?_
                refine TE.next ?_
                refine TW.cond rfl (fun H49 => ?_) (fun H49 => ?_)
                · refine TW.seq ?_
                  refine TW.region ?_
                  refine TO.y (Y.assign rfl) rfl rfl rfl ?_
                  refine TO.nil ?_
                  refine TE.next ?_
                  refine TW.ret ?_
                  refine TE.then_ret ?_
                  exact TE.leaf fun _ _ hf_ hs_ => ret_any (rs := [.tmp 4]) (vs := [.bool false]) (.inl rfl) rfl ⟨rfl, trivial⟩ hf_ hs_ ⟨(), rfl, hs_.pulls [] rfl⟩
                · refine TW.skip ?_
                  refine TE.next ?_
                  refine TW.seq ?_
                  refine TW.region ?_
                  refine TO.y (Y.load_box (v := .agg #[V_aE0, V_aE1, .int .i64 aE.Seq, V_aE3]) 3 kk36 rfl rfl rfl) rfl rfl rfl ?_
                  refine TO.ef (Ef.call (rest := [.own Y17.1 (lc R42.2.1), .own Y17.2.1 (lc R42.2.2.1), .own Y17.2.2 (lc R42.2.2.2), .box B1 36 [V_aE0, V_aE1, .int .i64 aE.Seq, V_aE3], .box B12 39 [Y11.1, Y11.2.1, .int .i64 R9.1.Seq, Y11.2.2], .box B18 39 [Y17.1, Y17.2.1, .int .i64 R15.1.Seq, Y17.2.2], .own Y11.1 (lc R9.1.Mem), .own Y11.2.1 (lc R9.1.Tables), .own Y11.2.2 (lc R9.1.Snaps)]) [0, 0, 0, 0, 0, 0, 0, 0, 0] (laws_toEng_con aE V_aE0 V_aE1 V_aE3 R6 H7) kc20 rfl rfl ⟨(Base.can HB_V_aE0), (Base.can HB_V_aE1), (Base.can HB_V_aE3), trivial⟩) rfl rfl rfl (fun Y50 => ?_)
                  refine TO.y (Y.move rfl) rfl rfl rfl ?_
                  refine TO.ef (Ef.call (rest := [.own Y50.1 (lc R6.Mem), .own Y50.2.1 (lc R6.Tables), .own Y50.2.2 (lc R6.Snaps), .own Y17.1 (lc R42.2.1), .own Y17.2.1 (lc R42.2.2.1), .own Y17.2.2 (lc R42.2.2.2), .box B1 36 [V_aE0, V_aE1, .int .i64 aE.Seq, V_aE3], .box B12 39 [Y11.1, Y11.2.1, .int .i64 R9.1.Seq, Y11.2.2], .box B18 39 [Y17.1, Y17.2.1, .int .i64 R15.1.Seq, Y17.2.2], .own Y11.1 (lc R9.1.Mem), .own Y11.2.1 (lc R9.1.Tables), .own Y11.2.2 (lc R9.1.Snaps)]) [0, 0, 0, 0, 0, 0, 0, 0, 0, 0, 0, 0] (impl_EngDrop_con R6 aSnap Y50.1 Y50.2.1 Y50.2.2 R15 H16) kc31 rfl rfl ⟨(Can.own 0 rfl), (Can.own 1 rfl), (Can.own 2 rfl), trivial⟩) rfl rfl rfl (fun Y51 => ?_)
                  refine TO.y (Y.move rfl) rfl rfl rfl ?_
                  refine TO.y (Y.extract rfl rfl) rfl rfl rfl ?_
                  refine TO.y (Y.extract rfl rfl) rfl rfl rfl ?_
                  refine TO.ef (Ef.alloc kz39 rfl) rfl rfl rfl (fun B52 => ?_)
                  refine TO.ef0 (Ef.store_box (us := [Y51.1, Y51.2.1, .int .i64 R15.1.Seq, Y51.2.2]) (vs' := [Y51.1, Y51.2.1, .int .i64 R15.1.Seq, Y51.2.2]) (is' := [.box B52 39 [Y51.1, Y51.2.1, .int .i64 R15.1.Seq, Y51.2.2], .own Y51.1 (lc R15.1.Mem), .own Y51.2.1 (lc R15.1.Tables), .own Y51.2.2 (lc R15.1.Snaps), .own Y50.1 (lc R6.Mem), .own Y50.2.1 (lc R6.Tables), .own Y50.2.2 (lc R6.Snaps), .own Y17.1 (lc R42.2.1), .own Y17.2.1 (lc R42.2.2.1), .own Y17.2.2 (lc R42.2.2.2), .box B1 36 [V_aE0, V_aE1, .int .i64 aE.Seq, V_aE3], .box B12 39 [Y11.1, Y11.2.1, .int .i64 R9.1.Seq, Y11.2.2], .box B18 39 [Y17.1, Y17.2.1, .int .i64 R15.1.Seq, Y17.2.2], .own Y11.1 (lc R9.1.Mem), .own Y11.2.1 (lc R9.1.Tables), .own Y11.2.2 (lc R9.1.Snaps)]) 0 kk39 rfl rfl rfl (Cel.agg ⟨(One.can (Can.own 1 rfl)), (One.can (Can.own 2 rfl)), (One.plain rfl), (One.can (Can.own 3 rfl)), trivial⟩) rfl rfl rfl rfl) rfl rfl (fun _ => ?_)
                  refine TO.y (Y.assign rfl) rfl rfl rfl ?_
                  refine TO.nil ?_
                  refine TE.next ?_
                  refine TW.seq ?_
                  refine TW.seq ?_
                  refine TW.joinBX (τ := Bool) (X := Unit) (fun T _ => [(9, .pointer (some ⟨B18, 0, none⟩)), (12, .int .i64 R42.1), (92, .bool T)]) (fun _ _ => [.box B18 39 [Y17.1, Y17.2.1, .int .i64 R15.1.Seq, Y17.2.2], .own Y17.1 (lc R42.2.1), .own Y17.2.1 (lc R42.2.2.1), .own Y17.2.2 (lc R42.2.2.2)]) ?_ (fun T53 X54 => ?_)
                  · refine TW.region ?_
                    refine TO.y (Y.load_box (v := .agg #[Y51.1, Y51.2.1, .int .i64 R15.1.Seq, Y51.2.2]) 0 kk39 rfl rfl rfl) rfl rfl rfl ?_
                    refine TO.y (Y.load_box (v := .agg #[Y11.1, Y11.2.1, .int .i64 R9.1.Seq, Y11.2.2]) 11 kk39 rfl rfl rfl) rfl rfl rfl ?_
                    refine TO.bind fun R55 H56 => ?_
                    refine TO.ef (Ef.call (rest := [.box B52 39 [Y51.1, Y51.2.1, .int .i64 R15.1.Seq, Y51.2.2], .own Y51.1 (lc R15.1.Mem), .own Y51.2.1 (lc R15.1.Tables), .own Y51.2.2 (lc R15.1.Snaps), .own Y50.1 (lc R6.Mem), .own Y50.2.1 (lc R6.Tables), .own Y50.2.2 (lc R6.Snaps), .own Y17.1 (lc R42.2.1), .own Y17.2.1 (lc R42.2.2.1), .own Y17.2.2 (lc R42.2.2.2), .box B1 36 [V_aE0, V_aE1, .int .i64 aE.Seq, V_aE3], .box B12 39 [Y11.1, Y11.2.1, .int .i64 R9.1.Seq, Y11.2.2], .box B18 39 [Y17.1, Y17.2.1, .int .i64 R15.1.Seq, Y17.2.2], .own Y11.1 (lc R9.1.Mem), .own Y11.2.1 (lc R9.1.Tables), .own Y11.2.2 (lc R9.1.Snaps)]) [0, 0, 0, 0, 0, 0, 0, 0, 0, 0, 0, 0, 0, 0, 0, 0] (laws_eqEng_con R15.1 R9.1 Y51.1 Y51.2.1 Y51.2.2 Y11.1 Y11.2.1 Y11.2.2 R55 H56) kc22 rfl rfl ⟨(Can.own 1 rfl), (Can.own 2 rfl), (Can.own 3 rfl), (Can.own 13 rfl), (Can.own 14 rfl), (Can.own 15 rfl), trivial⟩) rfl rfl rfl (fun _ => ?_)
                    refine TO.y (Y.not rfl) rfl rfl rfl ?_
                    refine TO.y (Y.move rfl) rfl rfl rfl ?_
                    refine TO.ite (b := !R55) (fun H58 => ?_) (fun H58 => ?_)
                    · refine TO.off (Gd.at 4 false 88 (!R55) rfl rfl rfl (beq_tf H58)) rfl rfl ?_
                      refine TO.off (Gd.at 4 false 88 (!R55) rfl rfl rfl (beq_tf H58)) rfl rfl ?_
                      refine TO.off (Gd.at 4 false 88 (!R55) rfl rfl rfl (beq_tf H58)) rfl rfl ?_
                      refine TO.y (Y.pick_t H58 rfl rfl) rfl rfl rfl ?_
                      refine TO.nil ?_
                      exact TE.jb_go () [12, 7, 7, 7] ⟨rfl, rfl, rfl, trivial⟩ rfl
                    · refine TO.y (Y.move rfl) (Gd.at 4 false 88 (!R55) rfl rfl rfl (beq_ff H58)) rfl rfl ?_
                      refine TO.y (Y.move rfl) (Gd.at 4 false 88 (!R55) rfl rfl rfl (beq_ff H58)) rfl rfl ?_
                      refine TO.y (Y.neb kb4 rfl rfl) (Gd.at 4 false 88 (!R55) rfl rfl rfl (beq_ff H58)) rfl rfl ?_
                      refine TO.y (Y.pick_f H58 rfl rfl) rfl rfl rfl ?_
                      refine TO.nil ?_
                      exact TE.jb_go () [12, 7, 7, 7] ⟨rfl, rfl, rfl, trivial⟩ rfl
                  · refine TE.next ?_
                    refine TW.cond rfl (fun H59 => ?_) (fun H59 => ?_)
                    · refine TW.seq ?_
                      refine TW.region ?_
                      refine TO.y (Y.assign rfl) rfl rfl rfl ?_
                      refine TO.nil ?_
                      refine TE.next ?_
                      refine TW.ret ?_
                      refine TE.then_ret ?_
                      exact TE.leaf fun _ _ hf_ hs_ => ret_any (rs := [.tmp 4]) (vs := [.bool false]) (.inl rfl) rfl ⟨rfl, trivial⟩ hf_ hs_ ⟨(), rfl, hs_.pulls [] rfl⟩
                    · refine TW.skip ?_
                      refine TE.next ?_
                      refine TW.seq ?_
                      refine TW.region ?_
                      refine TO.y (Y.assign rfl) rfl rfl rfl ?_
                      refine TO.nil ?_
                      refine TE.next ?_
                      refine TW.seq ?_
                      refine TW.region ?_
                      refine TO.y (Y.load_box (v := .agg #[Y17.1, Y17.2.1, .int .i64 R15.1.Seq, Y17.2.2]) 0 kk39 rfl rfl rfl) rfl rfl rfl ?_
                      refine TO.y (Y.move rfl) rfl rfl rfl ?_
                      refine TO.ef (Ef.call (rest := [.box B18 39 [Y17.1, Y17.2.1, .int .i64 R15.1.Seq, Y17.2.2], .own Y17.1 (lc R42.2.1), .own Y17.2.1 (lc R42.2.2.1), .own Y17.2.2 (lc R42.2.2.2)]) [0, 0, 0, 0] (laws_heldEng_con ({ Mem := R42.2.1, Tables := R42.2.2.1, Seq := R15.1.Seq, Snaps := R42.2.2.2 : Eng }) (1 : Int) Y17.1 Y17.2.1 Y17.2.2 R45 H46) kc24 rfl rfl ⟨(Can.own 1 rfl), (Can.own 2 rfl), (Can.own 3 rfl), trivial⟩) rfl rfl rfl (fun _ => ?_)
                      refine TO.y (Y.assign rfl) rfl rfl rfl ?_
                      refine TO.nil ?_
                      refine TE.next ?_
                      refine TW.seq ?_
                      refine TW.seq ?_
                      refine TW.region ?_
                      refine TO.y (Y.move rfl) rfl rfl rfl ?_
                      refine TO.y (Y.lss rfl rfl) rfl rfl rfl ?_
                      refine TO.nil ?_
                      refine TE.next ?_
                      refine TW.cond rfl (fun H61 => ?_) (fun H61 => ?_)
                      · refine TW.seq ?_
                        refine TW.region ?_
                        refine TO.y (Y.assign rfl) rfl rfl rfl ?_
                        refine TO.nil ?_
                        refine TE.next ?_
                        refine TW.ret ?_
                        refine TE.then_ret ?_
                        exact TE.leaf fun _ _ hf_ hs_ => ret_any (rs := [.tmp 4]) (vs := [.bool false]) (.inl rfl) rfl ⟨rfl, trivial⟩ hf_ hs_ ⟨(), rfl, hs_.pulls [] rfl⟩
                      · refine TW.skip ?_
                        refine TE.next ?_
                        refine TW.seq ?_
                        refine TW.seq ?_
                        refine TW.region ?_
                        refine TO.y (Y.move rfl) rfl rfl rfl ?_
                        refine TO.y (Y.move rfl) rfl rfl rfl ?_
                        refine TO.y (Y.neq rfl rfl) rfl rfl rfl ?_
                        refine TO.nil ?_
                        refine TE.next ?_
                        refine TW.cond rfl (fun H62 => ?_) (fun H62 => ?_)
                        · refine TW.seq ?_
                          refine TW.region ?_
                          refine TO.y (Y.assign rfl) rfl rfl rfl ?_
                          refine TO.nil ?_
                          refine TE.next ?_
                          refine TW.ret ?_
                          refine TE.then_ret ?_
                          exact TE.leaf fun _ _ hf_ hs_ => ret_any (rs := [.tmp 4]) (vs := [.bool false]) (.inl rfl) rfl ⟨rfl, trivial⟩ hf_ hs_ ⟨(), rfl, hs_.pulls [] rfl⟩
                        · refine TW.skip ?_
                          refine TE.next ?_
                          refine TW.seq ?_
                          refine TW.region ?_
                          refine TO.y (Y.assign rfl) rfl rfl rfl ?_
                          refine TO.nil ?_
                          refine TE.next ?_
                          refine TW.ret ?_
                          exact TE.leaf fun _ _ hf_ hs_ => ret_any (rs := [.tmp 4]) (vs := [.bool true]) (.inl rfl) rfl ⟨rfl, trivial⟩ hf_ hs_ ⟨(), rfl, hs_.pulls [] rfl⟩

end Go.Proofs.Ytamgnhkgcggbhab
