/- Part 3 of a proof of the law RelexReference: Go data as trees, the walks of the functions that the law reaches, the plain laws. -/
import Derived.Test.YtihcoegdfbpngaaGreatDoorGBRelexReference
import Derived.Lib.Join
import Derived.Below
import Derived.Laws.StructEq
import Derived.Laws.RangeString
import Derived.Lib.OthersKept
import Derived.Lib.DecodeN
import Derived.Laws.IdiomStrings
import Derived.Maps.RangeRun
import Derived.KernelRfl
set_option linter.unusedVariables false
set_option linter.unusedSimpArgs false
namespace Go.Abs
theorem hap_nil (m : Nat) (rd eids : List Nat) : hapB m [] rd eids = true := by unfold hapB; exact List.all_nil
theorem hap_cons (m i : Nat) (r e : List Nat) (prev : Prev) (rd eids : List Nat) : hapB m ((i, r, e) :: prev) rd eids = (((m / 2 ^ i % 2 == 1) || ((e.all fun id => !rd.contains id) && eids.all fun id => !r.contains id)) && hapB m prev rd eids) := by
 unfold hapB; rw [List.all_cons]
theorem jA : type_of% (aI @asq.eq_1 (aI @asq.eq_2 (aI @as0.eq_1 (aI @as0.eq_2 (aI @as1.eq_1 (aI @as1.eq_2 (aI @as1.eq_3 (aI @as2.eq_1 (aI @as2.eq_2 (@awanted.eq_1)))))))))) := (aI @asq.eq_1 (aI @asq.eq_2 (aI @as0.eq_1 (aI @as0.eq_2 (aI @as1.eq_1 (aI @as1.eq_2 (aI @as1.eq_3 (aI @as2.eq_1 (aI @as2.eq_2 (@awanted.eq_1))))))))))
theorem jG : type_of% (aI @gsq.eq_1 (aI @gsq.eq_2 (aI @gs0.eq_1 (aI @gs0.eq_2 (aI @gs1.eq_1 (aI @gs1.eq_2 (aI @gs2.eq_1 (aI @gs2.eq_2 (aI @gcond.eq_1 (aI @gop.eq_1 (aI @gop.eq_2 (aI @Op.operands.eq_1 (aI @Op.operands.eq_2 (aI @Op.operands.eq_3 (aI @Op.operands.eq_4 (aI @Op.operands.eq_5 (aI @Op.operands.eq_6 (aI @Op.operands.eq_7 (aI @Op.operands.eq_8 (aI @Op.operands.eq_9 (aI @Op.operands.eq_10 (aI @Op.operands.eq_11 (aI @Op.operands.eq_12 (aI @Op.operands.eq_13 (aI @Op.operands.eq_14 (aI @Op.operands.eq_15 (aI @Op.operands.eq_16 (aI @Op.operands.eq_17 (aI @Op.operands.eq_18 (aI @Op.operands.eq_19 (aI @Op.operands.eq_20 (aI @Op.operands.eq_21 (aI @Op.operands.eq_22 (aI @Op.operands.eq_23 (aI @Op.operands.eq_24 (aI @Op.operands.eq_25 (aI @Op.operands.eq_26 (aI @Op.operands.eq_27 (aI @Op.operands.eq_28 (aI @Op.operands.eq_29 (aI @Op.operands.eq_30 (aI @Op.operands.eq_31 (aI @Op.operands.eq_32 (aI @Op.operands.eq_33 (aI @Op.operands.eq_34 (aI @Op.operands.eq_35 (aI @Op.operands.eq_36 (aI @Op.operands.eq_37 (aI @Op.operands.eq_38 (aI @Op.operands.eq_39 (aI @Op.operands.eq_40 (aI @Op.operands.eq_41 (aI @Op.operands.eq_42 (aI @Op.operands.eq_43 (aI @Call.operands.eq_1 (aI @SG (@Array.toList_append.{0}))))))))))))))))))))))))))))))))))))))))))))))))))))))))) := (aI @gsq.eq_1 (aI @gsq.eq_2 (aI @gs0.eq_1 (aI @gs0.eq_2 (aI @gs1.eq_1 (aI @gs1.eq_2 (aI @gs2.eq_1 (aI @gs2.eq_2 (aI @gcond.eq_1 (aI @gop.eq_1 (aI @gop.eq_2 (aI @Op.operands.eq_1 (aI @Op.operands.eq_2 (aI @Op.operands.eq_3 (aI @Op.operands.eq_4 (aI @Op.operands.eq_5 (aI @Op.operands.eq_6 (aI @Op.operands.eq_7 (aI @Op.operands.eq_8 (aI @Op.operands.eq_9 (aI @Op.operands.eq_10 (aI @Op.operands.eq_11 (aI @Op.operands.eq_12 (aI @Op.operands.eq_13 (aI @Op.operands.eq_14 (aI @Op.operands.eq_15 (aI @Op.operands.eq_16 (aI @Op.operands.eq_17 (aI @Op.operands.eq_18 (aI @Op.operands.eq_19 (aI @Op.operands.eq_20 (aI @Op.operands.eq_21 (aI @Op.operands.eq_22 (aI @Op.operands.eq_23 (aI @Op.operands.eq_24 (aI @Op.operands.eq_25 (aI @Op.operands.eq_26 (aI @Op.operands.eq_27 (aI @Op.operands.eq_28 (aI @Op.operands.eq_29 (aI @Op.operands.eq_30 (aI @Op.operands.eq_31 (aI @Op.operands.eq_32 (aI @Op.operands.eq_33 (aI @Op.operands.eq_34 (aI @Op.operands.eq_35 (aI @Op.operands.eq_36 (aI @Op.operands.eq_37 (aI @Op.operands.eq_38 (aI @Op.operands.eq_39 (aI @Op.operands.eq_40 (aI @Op.operands.eq_41 (aI @Op.operands.eq_42 (aI @Op.operands.eq_43 (aI @Call.operands.eq_1 (aI @SG (@Array.toList_append.{0})))))))))))))))))))))))))))))))))))))))))))))))))))))))))
theorem jP : type_of% (aI @psq.eq_1 (aI @psq.eq_2 (aI @ps0.eq_1 (aI @ps0.eq_2 (aI @ps1.eq_1 (aI @ps1.eq_2 (aI @ps2.eq_1 (aI @ps2.eq_2 (aI @gcond.eq_1 (aI @gop.eq_1 (aI @gop.eq_2 (aI @Op.operands.eq_1 (aI @Op.operands.eq_2 (aI @Op.operands.eq_3 (aI @Op.operands.eq_4 (aI @Op.operands.eq_5 (aI @Op.operands.eq_6 (aI @Op.operands.eq_7 (aI @Op.operands.eq_8 (aI @Op.operands.eq_9 (aI @Op.operands.eq_10 (aI @Op.operands.eq_11 (aI @Op.operands.eq_12 (aI @Op.operands.eq_13 (aI @Op.operands.eq_14 (aI @Op.operands.eq_15 (aI @Op.operands.eq_16 (aI @Op.operands.eq_17 (aI @Op.operands.eq_18 (aI @Op.operands.eq_19 (aI @Op.operands.eq_20 (aI @Op.operands.eq_21 (aI @Op.operands.eq_22 (aI @Op.operands.eq_23 (aI @Op.operands.eq_24 (aI @Op.operands.eq_25 (aI @Op.operands.eq_26 (aI @Op.operands.eq_27 (aI @Op.operands.eq_28 (aI @Op.operands.eq_29 (aI @Op.operands.eq_30 (aI @Op.operands.eq_31 (aI @Op.operands.eq_32 (aI @Op.operands.eq_33 (aI @Op.operands.eq_34 (aI @Op.operands.eq_35 (aI @Op.operands.eq_36 (aI @Op.operands.eq_37 (aI @Op.operands.eq_38 (aI @Op.operands.eq_39 (aI @Op.operands.eq_40 (aI @Op.operands.eq_41 (aI @Op.operands.eq_42 (aI @Op.operands.eq_43 (aI @Call.operands.eq_1 (aI @SG (@Array.toList_append.{0}))))))))))))))))))))))))))))))))))))))))))))))))))))))))) := (aI @psq.eq_1 (aI @psq.eq_2 (aI @ps0.eq_1 (aI @ps0.eq_2 (aI @ps1.eq_1 (aI @ps1.eq_2 (aI @ps2.eq_1 (aI @ps2.eq_2 (aI @gcond.eq_1 (aI @gop.eq_1 (aI @gop.eq_2 (aI @Op.operands.eq_1 (aI @Op.operands.eq_2 (aI @Op.operands.eq_3 (aI @Op.operands.eq_4 (aI @Op.operands.eq_5 (aI @Op.operands.eq_6 (aI @Op.operands.eq_7 (aI @Op.operands.eq_8 (aI @Op.operands.eq_9 (aI @Op.operands.eq_10 (aI @Op.operands.eq_11 (aI @Op.operands.eq_12 (aI @Op.operands.eq_13 (aI @Op.operands.eq_14 (aI @Op.operands.eq_15 (aI @Op.operands.eq_16 (aI @Op.operands.eq_17 (aI @Op.operands.eq_18 (aI @Op.operands.eq_19 (aI @Op.operands.eq_20 (aI @Op.operands.eq_21 (aI @Op.operands.eq_22 (aI @Op.operands.eq_23 (aI @Op.operands.eq_24 (aI @Op.operands.eq_25 (aI @Op.operands.eq_26 (aI @Op.operands.eq_27 (aI @Op.operands.eq_28 (aI @Op.operands.eq_29 (aI @Op.operands.eq_30 (aI @Op.operands.eq_31 (aI @Op.operands.eq_32 (aI @Op.operands.eq_33 (aI @Op.operands.eq_34 (aI @Op.operands.eq_35 (aI @Op.operands.eq_36 (aI @Op.operands.eq_37 (aI @Op.operands.eq_38 (aI @Op.operands.eq_39 (aI @Op.operands.eq_40 (aI @Op.operands.eq_41 (aI @Op.operands.eq_42 (aI @Op.operands.eq_43 (aI @Call.operands.eq_1 (aI @SG (@Array.toList_append.{0})))))))))))))))))))))))))))))))))))))))))))))))))))))))))
theorem jD : type_of% (aI @dsq.eq_1 (aI @dsq.eq_2 (aI @ds0.eq_1 (aI @ds0.eq_2 (aI @ds1.eq_1 (aI @ds1.eq_2 (aI @ds1.eq_3 (aI @ds2.eq_1 (aI @ds2.eq_2 (aI @ds3.eq_1 (aI @ds3.eq_2 (aI @awanted.eq_1 (aI (aI @hap_nil @hap_cons) (aI @effIds.eq_1 (aI @effIds.eq_2 (aI @effSet.eq_1 (aI @effSet.eq_2 (aI @nextFresh.eq_1 (aI @nextFresh.eq_2 (aI @ard.eq_1 (aI @ard.eq_2 (aI @ard.eq_3 (aI @ard.eq_4 (aI @freshOk.eq_1 (aI @freshOk.eq_2 (aI @isUnborn.eq_1 (aI @ard.eq_5 (@ard.eq_6)))))))))))))))))))))))))))) := (aI @dsq.eq_1 (aI @dsq.eq_2 (aI @ds0.eq_1 (aI @ds0.eq_2 (aI @ds1.eq_1 (aI @ds1.eq_2 (aI @ds1.eq_3 (aI @ds2.eq_1 (aI @ds2.eq_2 (aI @ds3.eq_1 (aI @ds3.eq_2 (aI @awanted.eq_1 (aI (aI @hap_nil @hap_cons) (aI @effIds.eq_1 (aI @effIds.eq_2 (aI @effSet.eq_1 (aI @effSet.eq_2 (aI @nextFresh.eq_1 (aI @nextFresh.eq_2 (aI @ard.eq_1 (aI @ard.eq_2 (aI @ard.eq_3 (aI @ard.eq_4 (aI @freshOk.eq_1 (aI @freshOk.eq_2 (aI @isUnborn.eq_1 (aI @ard.eq_5 (@ard.eq_6))))))))))))))))))))))))))))
theorem jX : type_of% (aI @xq.eq_1 (aI @xq.eq_2 (aI @xd0.eq_1 (aI @xd0.eq_2 (aI @xd1.eq_1 (aI @xd1.eq_2 (aI @xd2.eq_1 (aI @xd2.eq_2 (aI @xd4.eq_1 (aI @xd4.eq_2 (aI @xchk.eq_1 (aI @gcond.eq_1 (aI @gop.eq_1 (aI @gop.eq_2 (aI @Op.operands.eq_1 (aI @Op.operands.eq_2 (aI @Op.operands.eq_3 (aI @Op.operands.eq_4 (aI @Op.operands.eq_5 (aI @Op.operands.eq_6 (aI @Op.operands.eq_7 (aI @Op.operands.eq_8 (aI @Op.operands.eq_9 (aI @Op.operands.eq_10 (aI @Op.operands.eq_11 (aI @Op.operands.eq_12 (aI @Op.operands.eq_13 (aI @Op.operands.eq_14 (aI @Op.operands.eq_15 (aI @Op.operands.eq_16 (aI @Op.operands.eq_17 (aI @Op.operands.eq_18 (aI @Op.operands.eq_19 (aI @Op.operands.eq_20 (aI @Op.operands.eq_21 (aI @Op.operands.eq_22 (aI @Op.operands.eq_23 (aI @Op.operands.eq_24 (aI @Op.operands.eq_25 (aI @Op.operands.eq_26 (aI @Op.operands.eq_27 (aI @Op.operands.eq_28 (aI @Op.operands.eq_29 (aI @Op.operands.eq_30 (aI @Op.operands.eq_31 (aI @Op.operands.eq_32 (aI @Op.operands.eq_33 (aI @Op.operands.eq_34 (aI @Op.operands.eq_35 (aI @Op.operands.eq_36 (aI @Op.operands.eq_37 (aI @Op.operands.eq_38 (aI @Op.operands.eq_39 (aI @Op.operands.eq_40 (aI @Op.operands.eq_41 (aI @Op.operands.eq_42 (aI @Op.operands.eq_43 (aI @Call.operands.eq_1 (aI @SG (aI @Array.toList_append.{0} (aI (aI @hap_nil @hap_cons) (aI @effIds.eq_1 (aI @effIds.eq_2 (aI @effSet.eq_1 (aI @effSet.eq_2 (aI @nextFresh.eq_1 (aI @nextFresh.eq_2 (aI @ard.eq_1 (aI @ard.eq_2 (aI @ard.eq_3 (aI @ard.eq_4 (aI @freshOk.eq_1 (aI @freshOk.eq_2 (aI @isUnborn.eq_1 (aI @Nat.le_refl (aI @decide_true (aI @Bool.true_or (aI @Bool.or_true (aI @List.all_cons.{0} (aI @List.all_nil.{0} (aI @Bool.and_true (aI @ard.eq_5 (@ard.eq_6))))))))))))))))))))))))))))))))))))))))))))))))))))))))))))))))))))))))))))))))))) := (aI @xq.eq_1 (aI @xq.eq_2 (aI @xd0.eq_1 (aI @xd0.eq_2 (aI @xd1.eq_1 (aI @xd1.eq_2 (aI @xd2.eq_1 (aI @xd2.eq_2 (aI @xd4.eq_1 (aI @xd4.eq_2 (aI @xchk.eq_1 (aI @gcond.eq_1 (aI @gop.eq_1 (aI @gop.eq_2 (aI @Op.operands.eq_1 (aI @Op.operands.eq_2 (aI @Op.operands.eq_3 (aI @Op.operands.eq_4 (aI @Op.operands.eq_5 (aI @Op.operands.eq_6 (aI @Op.operands.eq_7 (aI @Op.operands.eq_8 (aI @Op.operands.eq_9 (aI @Op.operands.eq_10 (aI @Op.operands.eq_11 (aI @Op.operands.eq_12 (aI @Op.operands.eq_13 (aI @Op.operands.eq_14 (aI @Op.operands.eq_15 (aI @Op.operands.eq_16 (aI @Op.operands.eq_17 (aI @Op.operands.eq_18 (aI @Op.operands.eq_19 (aI @Op.operands.eq_20 (aI @Op.operands.eq_21 (aI @Op.operands.eq_22 (aI @Op.operands.eq_23 (aI @Op.operands.eq_24 (aI @Op.operands.eq_25 (aI @Op.operands.eq_26 (aI @Op.operands.eq_27 (aI @Op.operands.eq_28 (aI @Op.operands.eq_29 (aI @Op.operands.eq_30 (aI @Op.operands.eq_31 (aI @Op.operands.eq_32 (aI @Op.operands.eq_33 (aI @Op.operands.eq_34 (aI @Op.operands.eq_35 (aI @Op.operands.eq_36 (aI @Op.operands.eq_37 (aI @Op.operands.eq_38 (aI @Op.operands.eq_39 (aI @Op.operands.eq_40 (aI @Op.operands.eq_41 (aI @Op.operands.eq_42 (aI @Op.operands.eq_43 (aI @Call.operands.eq_1 (aI @SG (aI @Array.toList_append.{0} (aI (aI @hap_nil @hap_cons) (aI @effIds.eq_1 (aI @effIds.eq_2 (aI @effSet.eq_1 (aI @effSet.eq_2 (aI @nextFresh.eq_1 (aI @nextFresh.eq_2 (aI @ard.eq_1 (aI @ard.eq_2 (aI @ard.eq_3 (aI @ard.eq_4 (aI @freshOk.eq_1 (aI @freshOk.eq_2 (aI @isUnborn.eq_1 (aI @Nat.le_refl (aI @decide_true (aI @Bool.true_or (aI @Bool.or_true (aI @List.all_cons.{0} (aI @List.all_nil.{0} (aI @Bool.and_true (aI @ard.eq_5 (@ard.eq_6)))))))))))))))))))))))))))))))))))))))))))))))))))))))))))))))))))))))))))))))))))
theorem jC : type_of% (aI @acallR.eq_def (aI @acall.eq_1 (aI @acall.eq_2 (@awanted.eq_1)))) := (aI @acallR.eq_def (aI @acall.eq_1 (aI @acall.eq_2 (@awanted.eq_1))))
theorem jE : type_of% (aI @acallR.eq_def (aI @acall.eq_1 (aI @acall.eq_2 (aI @gcond.eq_1 (aI @Op.operands.eq_1 (aI @Op.operands.eq_2 (aI @Op.operands.eq_3 (aI @Op.operands.eq_4 (aI @Op.operands.eq_5 (aI @Op.operands.eq_6 (aI @Op.operands.eq_7 (aI @Op.operands.eq_8 (aI @Op.operands.eq_9 (aI @Op.operands.eq_10 (aI @Op.operands.eq_11 (aI @Op.operands.eq_12 (aI @Op.operands.eq_13 (aI @Op.operands.eq_14 (aI @Op.operands.eq_15 (aI @Op.operands.eq_16 (aI @Op.operands.eq_17 (aI @Op.operands.eq_18 (aI @Op.operands.eq_19 (aI @Op.operands.eq_20 (aI @Op.operands.eq_21 (aI @Op.operands.eq_22 (aI @Op.operands.eq_23 (aI @Op.operands.eq_24 (aI @Op.operands.eq_25 (aI @Op.operands.eq_26 (aI @Op.operands.eq_27 (aI @Op.operands.eq_28 (aI @Op.operands.eq_29 (aI @Op.operands.eq_30 (aI @Op.operands.eq_31 (aI @Op.operands.eq_32 (aI @Op.operands.eq_33 (aI @Op.operands.eq_34 (aI @Op.operands.eq_35 (aI @Op.operands.eq_36 (aI @Op.operands.eq_37 (aI @Op.operands.eq_38 (aI @Op.operands.eq_39 (aI @Op.operands.eq_40 (aI @Op.operands.eq_41 (aI @Op.operands.eq_42 (aI @Op.operands.eq_43 (aI @Call.operands.eq_1 (aI @SG (@Array.toList_append.{0})))))))))))))))))))))))))))))))))))))))))))))))))) := (aI @acallR.eq_def (aI @acall.eq_1 (aI @acall.eq_2 (aI @gcond.eq_1 (aI @Op.operands.eq_1 (aI @Op.operands.eq_2 (aI @Op.operands.eq_3 (aI @Op.operands.eq_4 (aI @Op.operands.eq_5 (aI @Op.operands.eq_6 (aI @Op.operands.eq_7 (aI @Op.operands.eq_8 (aI @Op.operands.eq_9 (aI @Op.operands.eq_10 (aI @Op.operands.eq_11 (aI @Op.operands.eq_12 (aI @Op.operands.eq_13 (aI @Op.operands.eq_14 (aI @Op.operands.eq_15 (aI @Op.operands.eq_16 (aI @Op.operands.eq_17 (aI @Op.operands.eq_18 (aI @Op.operands.eq_19 (aI @Op.operands.eq_20 (aI @Op.operands.eq_21 (aI @Op.operands.eq_22 (aI @Op.operands.eq_23 (aI @Op.operands.eq_24 (aI @Op.operands.eq_25 (aI @Op.operands.eq_26 (aI @Op.operands.eq_27 (aI @Op.operands.eq_28 (aI @Op.operands.eq_29 (aI @Op.operands.eq_30 (aI @Op.operands.eq_31 (aI @Op.operands.eq_32 (aI @Op.operands.eq_33 (aI @Op.operands.eq_34 (aI @Op.operands.eq_35 (aI @Op.operands.eq_36 (aI @Op.operands.eq_37 (aI @Op.operands.eq_38 (aI @Op.operands.eq_39 (aI @Op.operands.eq_40 (aI @Op.operands.eq_41 (aI @Op.operands.eq_42 (aI @Op.operands.eq_43 (aI @Call.operands.eq_1 (aI @SG (@Array.toList_append.{0}))))))))))))))))))))))))))))))))))))))))))))))))))
theorem jO : type_of% (aI @aop.eq_1 (aI @aop.eq_2 (aI @aop.eq_3 (aI @aop.eq_4 (aI @aop.eq_5 (aI @aop.eq_6 (aI @aop.eq_7 (aI @aop.eq_8 (aI @aop.eq_9 (aI @aop.eq_10 (aI @aop.eq_11 (aI @aop.eq_12 (aI @aop.eq_13 (aI @aop.eq_14 (aI @aop.eq_15 (aI @aop.eq_16 (aI @aop.eq_17 (aI @aop.eq_18 (aI @aop.eq_19 (aI @aop.eq_20 (aI @aop.eq_21 (aI @aop.eq_22 (aI @aop.eq_23 (aI @aload.eq_1 (aI @aload.eq_2 (aI @aload.eq_3 (aI @ajust.eq_1 (aI @astore.eq_1 (aI @astore.eq_2 (aI @splice.eq_1 (aI @splice.eq_2 (aI @afldAddr.eq_1 (aI @afld.eq_def (aI @aidxAddr.eq_1 (aI @aidxAddr.eq_2 (aI @aidxAddr.eq_3 (aI @aidx.eq_1 (aI @aidx.eq_2 (aI @abin.eq_1 (aI @abin.eq_2 (aI @abin.eq_3 (aI @abin.eq_4 (aI @abin.eq_5 (aI @abin.eq_6 (aI @abin.eq_7 (aI @abin.eq_8 (aI @abin.eq_9 (aI @abin.eq_10 (aI @abin.eq_11 (aI @abin.eq_12 (aI @abin.eq_13 (aI @abin.eq_14 (aI @abin.eq_15 (aI @abin.eq_16 (aI @abin.eq_17 (aI @abin.eq_18 (aI @abin.eq_19 (aI @abin.eq_20 (aI @abin.eq_21 (aI @abin.eq_22 (aI @abin.eq_23 (aI @abin.eq_24 (aI @abin.eq_25 (aI @abin.eq_26 (aI @abin.eq_27 (aI @abin.eq_28 (aI @abin.eq_29 (aI @abin.eq_30 (aI @aun.eq_1 (aI @aun.eq_2 (aI @aun.eq_3 (aI @abuiltin.eq_1 (aI @abuiltin.eq_2 (aI @abuiltin.eq_3 (aI @abuiltin.eq_4 (aI @abuiltin.eq_5 (aI @abuild.eq_1 (aI @abuild.eq_2 (aI @abuildS.eq_1 (aI @abuildS.eq_2 (aI @aslice.eq_1 (aI @aslice.eq_2 (aI @aslice.eq_3 (aI @aslice.eq_4 (aI @aslice.eq_5 (aI @abndO.eq_1 (aI @abndO.eq_2 (aI @abnd.eq_1 (aI @abnd.eq_2 (aI @amakeSlice.eq_1 (aI @amakeSlice.eq_2 (aI @aop.eq_24 (aI @aop.eq_25 (aI @aop.eq_26 (aI @alookup.eq_1 (aI @amapset.eq_1 (aI @alook.eq_1 (aI @alook.eq_2 (@Option.isSome_some.{0}))))))))))))))))))))))))))))))))))))))))))))))))))))))))))))))))))))))))))))))))))))))))))))))))))) := (aI @aop.eq_1 (aI @aop.eq_2 (aI @aop.eq_3 (aI @aop.eq_4 (aI @aop.eq_5 (aI @aop.eq_6 (aI @aop.eq_7 (aI @aop.eq_8 (aI @aop.eq_9 (aI @aop.eq_10 (aI @aop.eq_11 (aI @aop.eq_12 (aI @aop.eq_13 (aI @aop.eq_14 (aI @aop.eq_15 (aI @aop.eq_16 (aI @aop.eq_17 (aI @aop.eq_18 (aI @aop.eq_19 (aI @aop.eq_20 (aI @aop.eq_21 (aI @aop.eq_22 (aI @aop.eq_23 (aI @aload.eq_1 (aI @aload.eq_2 (aI @aload.eq_3 (aI @ajust.eq_1 (aI @astore.eq_1 (aI @astore.eq_2 (aI @splice.eq_1 (aI @splice.eq_2 (aI @afldAddr.eq_1 (aI @afld.eq_def (aI @aidxAddr.eq_1 (aI @aidxAddr.eq_2 (aI @aidxAddr.eq_3 (aI @aidx.eq_1 (aI @aidx.eq_2 (aI @abin.eq_1 (aI @abin.eq_2 (aI @abin.eq_3 (aI @abin.eq_4 (aI @abin.eq_5 (aI @abin.eq_6 (aI @abin.eq_7 (aI @abin.eq_8 (aI @abin.eq_9 (aI @abin.eq_10 (aI @abin.eq_11 (aI @abin.eq_12 (aI @abin.eq_13 (aI @abin.eq_14 (aI @abin.eq_15 (aI @abin.eq_16 (aI @abin.eq_17 (aI @abin.eq_18 (aI @abin.eq_19 (aI @abin.eq_20 (aI @abin.eq_21 (aI @abin.eq_22 (aI @abin.eq_23 (aI @abin.eq_24 (aI @abin.eq_25 (aI @abin.eq_26 (aI @abin.eq_27 (aI @abin.eq_28 (aI @abin.eq_29 (aI @abin.eq_30 (aI @aun.eq_1 (aI @aun.eq_2 (aI @aun.eq_3 (aI @abuiltin.eq_1 (aI @abuiltin.eq_2 (aI @abuiltin.eq_3 (aI @abuiltin.eq_4 (aI @abuiltin.eq_5 (aI @abuild.eq_1 (aI @abuild.eq_2 (aI @abuildS.eq_1 (aI @abuildS.eq_2 (aI @aslice.eq_1 (aI @aslice.eq_2 (aI @aslice.eq_3 (aI @aslice.eq_4 (aI @aslice.eq_5 (aI @abndO.eq_1 (aI @abndO.eq_2 (aI @abnd.eq_1 (aI @abnd.eq_2 (aI @amakeSlice.eq_1 (aI @amakeSlice.eq_2 (aI @aop.eq_24 (aI @aop.eq_25 (aI @aop.eq_26 (aI @alookup.eq_1 (aI @amapset.eq_1 (aI @alook.eq_1 (aI @alook.eq_2 (@Option.isSome_some.{0})))))))))))))))))))))))))))))))))))))))))))))))))))))))))))))))))))))))))))))))))))))))))))))))))))
theorem jL : type_of% (aI @aload.eq_1 (aI @aload.eq_2 (@aload.eq_3))) := (aI @aload.eq_1 (aI @aload.eq_2 (@aload.eq_3)))
theorem jN : type_of% (aI @true_and (aI @and_true (aI @LS (aI @SS (aI @SX (aI @HS (aI @mkS_cons (aI @mkS_nil (aI @eq_self' (aI @List.map_nil.{0, 0} (aI @beq_self_eq_true.{0} (@Nat.succ_ne_self)))))))))))) := (aI @true_and (aI @and_true (aI @LS (aI @SS (aI @SX (aI @HS (aI @mkS_cons (aI @mkS_nil (aI @eq_self' (aI @List.map_nil.{0, 0} (aI @beq_self_eq_true.{0} (@Nat.succ_ne_self))))))))))))
theorem kA : type_of% (aI @jA (aI @jO @jN)) := aI @jA (aI @jO @jN)
theorem kC : type_of% (aI @jC @jN) := aI @jC @jN
theorem kE : type_of% (aI @jE @jN) := aI @jE @jN
end Go.Abs
namespace Go.Abs
theorem dp_skip {P : Program} {N : Nat} {ops : Array Oper} {Q : Post} {k : Nat} {o : Oper} {l : List Oper} {T : Slots} {G : Nat → Bool} {H : Heap} {r : PV} (hc : gcond ops.toList T G N o = some false)
  (h : DP P N ops Q (k + 1) l (msk (.tup []) (updO T o.dst r) (ugO G o.dst false)) H) : DP P N ops Q k (o :: l) (msk (.tup []) T G) H := by
 intro prev hn
 rw [msk_put_false] at h
 exact dops_skipR [] (fun p hp => .inr ⟨by rw [hn p hp]; simp, by simp⟩) hc (h _ (hn.app _ _))
theorem jS : (∀ x : Operand, (some x).toArray.toList = [x]) ∧ ((none : Option Operand).toArray.toList = []) ∧ ((none : Option Operand).isNone = true) ∧ (∀ x : Operand, (some x).isNone = false) ∧ (∀ l : List Operand, [] ++ l = l) ∧ (∀ l : List Operand, l ++ [] = l) ∧
  (∀ (x : Operand) (l m : List Operand), (x :: l) ++ m = x :: (l ++ m)) ∧ ((false = true) = False) ∧ (∀ p : Prop, (p ∧ False) = False) ∧ (∀ p : Prop, (False ∧ p) = False) ∧ (∀ (c : Bool) (G : Nat → Bool) (v : Value), gOk c G (.const v) = true) :=
 ⟨fun _ => rfl, rfl, rfl, fun _ => rfl, fun _ => rfl, fun l => List.append_nil l, fun _ _ _ => rfl, by simp, by simp, by simp, fun _ _ _ => rfl⟩
end Go.Abs
namespace Go.Abs
section
variable {P : Program} {N nb : Nat} {ops : Array Oper} {Q : Post}
end
end Go.Abs
namespace Go.Abs
section
variable {P : Program} {N nb : Nat} {ops : Array Oper} {Q : Post}
end
end Go.Abs
namespace Go.Abs
section
variable {E : Env} (ho : E.Ok) {H1 L : Heap} (hE : E.H = H1 ++ L) {ib id k cp sz : Nat} {es : List PV}
  (hib : H1.length ≤ ib) (hid : H1.length ≤ id) (hne : ib ≠ id) (hbox : E.H[ib]? = some (.row [.msl id 0 k cp])) (hrow : E.H[id]? = some (.row (flatE es))) (hk : k ≤ es.length) (hcp : es.length = cp)
  (hes : ∀ e ∈ es, e.cells.length = sz) (hb : ∀ e ∈ es, ∀ x ∈ e.cells, Bel H1.length x)
end
section
variable {P : Program} {N nb : Nat} {Q : Post}
end
end Go.Abs
namespace Go.Abs
section
variable {P : Program} {N nb : Nat} {ops : Array Oper} {Q : Post}
end
section
variable {P : Program} {N nb : Nat} {ops : Array Oper} {Q : Post}
end
end Go.Abs
namespace Go.Abs
open Go.RowKit
section
variable {P : Program} {f : FuncId} {args : List PV} {H : Heap} {r : PV}
theorem below_cell {w w' : World} (h : Below w.heap.size w w') (a : Addr) (v : Value) (hc : w.cell? a = some v) : w'.cell? a = some v := by
 have hlt : a.block < w.heap.size := by
  rcases Nat.lt_or_ge a.block w.heap.size with q | q
  ·exact q
  ·unfold World.cell? at hc
   rw [Array.getElem?_eq_none q] at hc
   simp at hc
 unfold World.cell? at hc ⊢
 rw [h.block _ hlt]; exact hc
theorem acalls_below (h : ∀ (E : Env) (vargs : Array Value), E.Ok → E.H = H → RL E.view vargs args → ∃ v, VRel E.view v r ∧ Calls P f vargs E.w fun e w' => e = .returned v ∧ Below E.w.heap.size E.w w') : ACalls P f args H fun r' H' => r' = r ∧ H' = H := by
 intro E vargs ho hH hrl
 obtain ⟨v, hv, hc⟩ := h E vargs ho hH hrl
 refine hc.mono fun e w' ⟨he, hb⟩ => ?_
 let E' : Env := { E with w := w' }
 have hview : E.view.le E'.view := by
  refine ⟨fun a v hc => ?_, fun id h => h, fun id _ => rfl, fun id t' _ ht => ⟨t', ht, .inl rfl⟩⟩
  simp only [Env.view, E'] at hc ⊢
  split at hc
  ·rename_i hs
   rw [if_pos hs]; exact below_cell hb _ _ hc
  ·cases hc
 refine ⟨E', v, r, he, rfl, ⟨hb.os, hb.tape, hb.output, hb.size, fun b hlt _ => ⟨rfl, hb.block b hlt⟩, hview, fun b _ => id⟩, ?_, hv.mono hview, rfl, hH⟩
 refine ⟨?_, ?_, ho.injr, ho.injb, ho.globs_of hview.cell fun _ _ _ h => h, ho.objs.of hview fun id k hi => ⟨hi, rfl, hb.block _ (ho.objs.lt hi), rfl⟩⟩
 ·intro id cs hi
  obtain ⟨arr, elem, h1, h2, h3, h4⟩ := ho.rows id cs hi
  exact ⟨arr, elem, (hb.block _ (ho.rowBlock hi)).trans h1, h2, fun i hl => (h3 i hl).mono hview, h4⟩
 ·intro id n sz b hi hb'
  obtain ⟨arr, elem, pos, h1, h2⟩ := ho.bufs id n sz b hi hb'
  exact ⟨arr, elem, pos, (hb.block _ (ho.bufBlock hi hb')).trans h1, h2⟩
end
end Go.Abs
namespace Go.Abs
open Go.RowKit
def Pre (G H : Heap) : Prop := ∀ (k : Nat) (o : AObj), G[k]? = some o → H[k]? = some o
theorem Pre.refl (G : Heap) : Pre G G := fun _ _ h => h
theorem Pre.app {G H : Heap} (h : Pre G H) (L : Heap) : Pre G (H ++ L) := fun k o hk => by
 have := h k o hk
 rw [List.getElem?_append_left (lG this)]; exact this
def PG (G : Heap) (P : Program) (f : FuncId) (args : List PV) (r : PV) : Prop := ∀ H, Pre G H → ACalls P f args H fun r' H' => r' = r ∧ H' = H
section
variable {P : Program} {N : Nat}
theorem pg_of {G : Heap} {f : FuncId} {fn : Func} {c : Code} {args : List PV} {r : PV} (hf : P.funcs[f]? = some fn) (hb : fn.body = some c) (hN : fn.ntmps = N) (hl : args.length ≤ N) (hr : Bel 0 r)
  (h : ∀ H, Pre G H → HBel H.length H → AWP P N H.length c (fun e T H' => (e = .normal ∨ e = .ret) ∧ ∃ r' L, aresults P N T H' fn.results.toList = some r' ∧ r'.drop1 = r ∧ H' = H ++ L) (enter args) H) : PG G P f args r :=
 fun H hG => keeps_of hf hb hN hl (hr.mono (Nat.zero_le _)) fun hb' => h H hG hb'
theorem glob_cell {E : Env} (ho : E.Ok) {id b : Nat} {vs : List Value} (hid : E.H[id]? = some (.glob b vs)) {i : Nat} (h : i < vs.length) : E.w.cell? ⟨b, i, none⟩ = some vs[i] := by
 have := ho.globs id b vs hid i h
 simp only [Env.view] at this
 split at this
 ·exact this
 ·cases this
end
end Go.Abs
namespace Go.Abs
structure ISAt (P : Program) (t : TypeId) where
 f0 : Field
 f1 : Field
 ut : P.underlying t = some (.struct #[f0, f1])
 held : P.stoodInHeld t = false
 n0 : f0.name ≠ "_"
 n1 : f1.name ≠ "_"
 o0 : f0.offset = 0
 o1 : f1.offset = 1
 u0 : P.underlying f0.type = some (.int .i64)
 u1 : P.underlying f1.type = some .string
 a0 : ∀ w, (isAgg f0.type).run P w = .ok false w
 a1 : ∀ w, (isAgg f1.type).run P w = .ok false w
 gu : P.eqGuardType P.depth t = false
theorem run_eqIS {P : Program} {t : TypeId} (F : ISAt P t) (w : World) (a b : Int) (s s' : ByteArray) :
  (Op.equal t (.agg #[.int .i64 a, .string s]) (.agg #[.int .i64 b, .string s'])).run P w = .ok ((a == b) && (s.toList == s'.toList)) w := by
 have hf : P.fieldsOf t = #[F.f0, F.f1] := by unfold Program.fieldsOf; rw [F.ut]
 have p0 : ∀ (x : Value) (y : Value) w, (part F.f0.type #[x, y] F.f0.offset).run P w = .ok x w := fun x y w => by
  simp only [part, Sem.run_bind, F.a0, Result.andThen_ok, F.o0]; rfl
 have p1 : ∀ (x : Value) (y : Value) w, (part F.f1.type #[x, y] F.f1.offset).run P w = .ok y w := fun x y w => by
  simp only [part, Sem.run_bind, F.a1, Result.andThen_ok, F.o1]; rfl
 show (Op.equalIn (9999 + 1) t _ _).run P w = _
 rw [run_equalIn_struct w 9999 t _ _ (by rw [hf]; exact F.ut) F.held, hf]
 show (Op.eqFields 9999 _ _ [F.f0, F.f1]).run P w = _
 simp only [Op.eqFields, if_pos F.n0, if_pos F.n1, Sem.run_bind, p0, p1, Result.andThen_ok, run_equalIn_int w 9998 _ _ _ _ _ F.u0, run_equalIn_string w 9998 _ _ _ F.u1, Sem.run_ite, Sem.run_pure]
 cases h1 : (a == b) <;> cases h2 : (s.toList == s'.toList) <;> simp
theorem guard_is {P : Program} {t : TypeId} (F : ISAt P t) {w : World} (op : BinOp) (x y : Operand) (u v : Array Value) : (eqGuard op t x y (.agg u) (.agg v)).run P w = .ok () w := by
 unfold eqGuard
 simp only [Sem.run_bind, run_program, Result.andThen_ok, F.gu, Bool.not_false, if_true, Sem.run_ite, Sem.run_pure]
 split <;> rfl
end Go.Abs
namespace Go.Abs
theorem dp_val {P : Program} {N : Nat} {ops : Array Oper} {Q : Post} {k : Nat} {o : Oper} {l : List Oper} {T : Slots} {G : Nat → Bool} {H : Heap} {v : PV} (hc : gcond ops.toList T G N o = some true) (hg : o.op.operands.toList.all (gOk true G) = true)
  (hv : ∀ (E : Env) (a : Act), E.Ok → (∀ x ∈ o.op.operands.toList, okOpnd N x = true → VRel E.view (a.eval x) (aev T x)) → ∃ val, (execOp a.eval o).run P E.w = .ok (.value val) E.w ∧ VRel E.view val v)
  (h : DP P N ops Q (k + 1) l (msk (.tup []) (updO T o.dst v) (ugO G o.dst true)) H) : DP P N ops Q k (o :: l) (msk (.tup []) T G) H := by
 intro prev hn
 rw [msk_put_true] at h
 refine ⟨v, [], [], ?_, by simp, fun p hp => .inr ⟨by simp, by simp⟩, h _ (hn.app _ _)⟩
 intro T' H' hT hHd hlen E a ho hE ht
 refine .inr ⟨awanted_sound ht (wanted_agree hT ((gcond_sound hc).1 rfl _)), fun next Q hnx => ?_⟩
 obtain ⟨val, h1, h2⟩ := hv E a ho fun x hx hok => by
  have := vrel_eval ht x hok
  rwa [aev_agree hT x hx, aev_msk (List.all_eq_true.1 hg x hx)] at this
 unfold Oper.wp
 rw [h1]
 exact hnx E val (.refl E) ho hE h2
theorem inv_IS {V : View} {v : Value} {n : Int} {q : List UInt8} (hv : VRel V v (.agg [.int .i64 n, .str q])) : ∃ z : ByteArray, v = .agg #[.int .i64 n, .string z] ∧ z.data.toList = q := by
 cases hv with
 | agg arr _ hl hr =>
  have h0 := hr 0 (by simp)
  have h1 := hr 1 (by simp)
  simp only [List.getElem_cons_zero, List.getElem_cons_succ] at h0 h1
  have hs : arr.size = 2 := by simpa using hl
  rw [Array.getD_eq_getD_getElem?, Array.getElem?_eq_getElem (by omega)] at h0 h1
  simp only [Option.getD_some] at h0 h1
  generalize hg0 : arr[0] = g0 at h0
  generalize hg1 : arr[1] = g1 at h1
  cases h0 with
  | int =>
   cases h1 with
   | str z =>
    refine ⟨z, ?_, rfl⟩
    congr 1
    apply Array.ext
    ·simp [hs]
    ·intro i hi hi2
     match i, hi2 with
     | 0, _ => exact hg0
     | 1, _ => exact hg1
theorem dp_neqIS {P : Program} {N : Nat} {ops : Array Oper} {Q : Post} {k : Nat} {o : Oper} {l : List Oper} {T : Slots} {G : Nat → Bool} {H : Heap} {t y' : TypeId} {x y : Operand} {a b : Int} {s s' : List UInt8} (F : ISAt P t)
  (hop : o.op = .binOp .neq t x y y') (hx : aev T x = .agg [.int .i64 a, .str s]) (hy : aev T y = .agg [.int .i64 b, .str s']) (hc : gcond ops.toList T G N o = some true) (hg : o.op.operands.toList.all (gOk true G) = true) (okx : okOpnd N x = true) (oky : okOpnd N y = true)
  (h : DP P N ops Q (k + 1) l (msk (.tup []) (updO T o.dst (.bool (!(decide (a = b) && decide (s = s'))))) (ugO G o.dst true)) H) : DP P N ops Q k (o :: l) (msk (.tup []) T G) H := by
 refine dp_val hc hg (fun E A ho he => ?_) h
 have rx := he x (by rw [hop]; simp [Op.operands]) okx
 have ry := he y (by rw [hop]; simp [Op.operands]) oky
 rw [hx] at rx; rw [hy] at ry
 obtain ⟨z, hvx, hz⟩ := inv_IS rx
 obtain ⟨z', hvy, hz'⟩ := inv_IS ry
 have hb : ((a == b) && (z.toList == z'.toList)) = (decide (a = b) && decide (s = s')) := by
  have e : ∀ (q : ByteArray), q.toList = q.data.toList := fun q => by rw [ByteArray.toList_eq]
  rw [e, e, hz, hz', Bool.eq_iff_iff]
  simp
 refine ⟨.bool (!(decide (a = b) && decide (s = s'))), ?_, .bool _⟩
 unfold execOp
 rw [hop]
 simp only [Sem.run_bind, hvx, hvy, guard_is F, Result.andThen_ok, binOp, run_eqIS F, Sem.run_pure, hb]
end Go.Abs
namespace Go.Abs
open Go.Lib (iterAt_size iterAt_other iterAt_heap run_next_any_at run_next_end_at)
section
variable {P : Program} {N nb : Nat} {ops : Array Oper} {Q : Post}
end
end Go.Abs
namespace Go.Abs
section
variable {P : Program} {N nb : Nat} {ops : Array Oper} {Q : Post}
theorem aops_appNew {o : Oper} {l : List Oper} {T : Slots} {H : Heap} {x y : Operand} {t u : TypeId} {ei : TypeId × TI} {z e1 : PV} {tl : Tail} {n : Nat} {oc : List PV} (hw : awanted ops.toList T N o = some true)
  (hop : o.op = .call ⟨.builtin .append, #[x, y], #[t, u]⟩) (okx : okOpnd N x = true) (oky : okOpnd N y = true) (hy : aev T y = .slice [e1] tl)
  (hb : (n + 1) * ei.2.bytes ≤ 2 ^ 47) (hm : n + 1 ≤ maxLen) (hxs : e1.cells.length = ei.2.sz)
  (hte : telem P t = some ei) (htu : (telem P u).isSome = true) (hz : tzero P ei.1 = some z) (hzf : z.fits ei.2 = true)
  (hold : ∀ (E : Env) (v : Value), E.Ok → E.H = H → VRel E.view v (aev T x) → ∃ ad, v = .slice ad n n ∧ ∃ arrs, (Builtin.firstCells ei.2.sz n (.slice ad n n)).run P E.w = .ok arrs E.w ∧ RL E.view arrs oc)
  (h : ∀ (c : Nat) (rest : List PV), n + 1 ≤ c → c ≤ maxLen → rest = (List.replicate (c - (n + 1)) z.cells).flatten → AOps P N nb ops Q l (updO T o.dst (.msl H.length 0 (n + 1) c)) (H ++ [.row (oc ++ e1.cells ++ rest)])) : AOps P N nb ops Q (o :: l) T H := by
 intro E a ho hH ht
 subst hH
 obtain ⟨e, i⟩ := ei
 obtain ⟨h1, h2⟩ := telem_some hte
 obtain ⟨dd, f, h3, h4, rfl⟩ := tinfo_some h2
 obtain ⟨f', zv, h5, h6, rfl⟩ := tzero_some hz
 simp only at h5 hzf hb hxs hold
 rw [h4] at h5; cases h5
 obtain ⟨hzs, hzj⟩ := PV.fits_spec hzf
 simp only at hzs
 obtain ⟨zc1, zc2⟩ := (vrel_ofConst E.view zv).not_junk_cells hzj
 obtain ⟨eu, hue⟩ := telem_isSome htu
 have hvx := vrel_eval ht x okx
 have hvy := vrel_eval ht y oky
 rw [hy] at hvy
 have hd := ho.drew
 obtain ⟨adx, vx, arrs, s1, s2⟩ := hold E.drew _ hd rfl hvx
 have hxs' : ∀ q ∈ [e1], q.cells.length = f.size := fun q hq => by rw [List.mem_singleton.1 hq]; exact hxs
 have em : maxLen = 9223372036854775807 := by decide
 obtain ⟨c, hc6, hc7, hc8⟩ := run_choose_cap (P := P) (w := E.w) (n + 1) n e
 have hcm : c ≤ maxLen := by
  have := hc8 (by have e2 : maxLen = 2 ^ 63 - 1 := rfl; omega)
  have e2 : maxLen = 2 ^ 63 - 1 := rfl
  omega
 obtain ⟨arrx, r1, r2, ady, capy, vy, hcy1, hcy2, _⟩ := run_first (P := P) (E := E.drew) hvy hxs'
 have hzl2 : RL E.drew.view (Builtin.zeroCells zv.cells (c - (n + 1))) ((List.replicate (c - (n + 1)) (ofConst zv).cells).flatten) := by
  have := rl_zero (V := E.drew.view) zv hzj (c - (n + 1))
  rw [flatE_replicate] at this
  exact this
 have hfe : flatE [e1] = e1.cells := by simp [flatE]
 rw [hfe] at r2
 let arr : Array Value := arrs ++ arrx ++ Builtin.zeroCells zv.cells (c - (n + 1))
 have hrl : RL E.drew.view arr (oc ++ e1.cells ++ (List.replicate (c - (n + 1)) (ofConst zv).cells).flatten) := rl_append (rl_append s2 r2) hzl2
 have hun : E.drew.ext.H[E.H.length]? = some .unborn := by simp [Env.ext, Env.drew]
 have hle' := E.drew.ext_le.trans (Env.newRow_le (E := E.drew.ext) hd.ext (id := E.H.length) hun arr e (oc ++ e1.cells ++ (List.replicate (c - (n + 1)) (ofConst zv).cells).flatten))
 have hok' := Env.Ok.newRow (E := E.drew.ext) hd.ext (id := E.H.length) hun arr e (oc ++ e1.cells ++ (List.replicate (c - (n + 1)) (ofConst zv).cells).flatten) hrl.1 (fun i hl => (hrl.2 i hl).mono E.drew.ext_view_le)
 have hH' : (E.drew.ext.newRow E.H.length arr e (oc ++ e1.cells ++ (List.replicate (c - (n + 1)) (ofConst zv).cells).flatten)).H = E.H ++ [.row (oc ++ e1.cells ++ (List.replicate (c - (n + 1)) (ofConst zv).cells).flatten)] := by
  simp only [Env.newRow, Env.ext, Env.drew]
  rw [List.set_append_right _ _ (Nat.le_refl _)]; simp
 have run1 : (execOp a.eval o).run P E.w = .ok (.value (.slice (some ⟨E.w.heap.size, 0, none⟩) (n + 1) c)) (E.drew.ext.newRow E.H.length arr e (oc ++ e1.cells ++ (List.replicate (c - (n + 1)) (ofConst zv).cells).flatten)).w := by
  unfold execOp
  rw [hop]
  simp only
  refine (run_builtin (c := ⟨.builtin .append, #[x, y], #[t, u]⟩) (a := a) (E := E) (P := P) (xs := [x, y]) (ts := [t, u]) (ty := o.type) rfl rfl rfl (s := Builtin.append_ #[t, u] o.type #[a.eval x, a.eval y]) rfl).trans ?_
  have hc6' : (choose (.appendCap (n + 1) n e)).run P E.w = .ok c E.drew.w := hc6
  have n2 : ¬ n + 1 ≤ n := by omega
  have n3 : ¬ ((n + 1 : Nat) : Int) > IntKind.i64.max := by
   have e1 : IntKind.i64.max = 9223372036854775807 := by decide
   rw [e1]; omega
  have n4 : ¬ Builtin.nextslicecap (n + 1) n * f.bytes > 2 ^ 48 := by
   have := nextslicecap_le (n + 1) n (by omega)
   have := Nat.mul_le_mul_right f.bytes this
   rw [Nat.mul_assoc] at this
   omega
  have r1' : (Builtin.firstCells f.size 1 (.slice ady 1 capy)).run P E.drew.w = .ok arrx E.drew.w := by have := r1; rw [vy] at this; exact this
  have vy' : a.eval y = .slice ady 1 capy := vy
  simp only [Builtin.append_, List.getElem?_toArray, List.getElem?_cons_zero, List.getElem?_cons_succ, Sem.run_bind, run_under h1, run_size h4, run_under hue, Result.andThen_ok, Sem.run_pure, vx, vy', Builtin.lenOf, n2, n3, n4, if_true, if_false, run_tinfo h4,
   Bool.not_false, Bool.false_eq_true, run_zero h4 h6, hc6', run_ask, s1, r1', Go.newRow, run_newObj, false_and]
  rfl
 have hv : VRel (E.drew.ext.newRow E.H.length arr e (oc ++ e1.cells ++ (List.replicate (c - (n + 1)) (ofConst zv).cells).flatten)).view (.slice (some ⟨E.w.heap.size, 0, none⟩) (n + 1) c) (.msl E.H.length 0 (n + 1) c) := by
  have := VRel.msl (V := (E.drew.ext.newRow E.H.length arr e (oc ++ e1.cells ++ (List.replicate (c - (n + 1)) (ofConst zv).cells).flatten)).view) E.H.length 0 (n + 1) c
   ⟨.row _, by rw [hH', List.getElem?_append_right (Nat.le_refl _), Nat.sub_self]; rfl, by simp⟩ hcm
  simpa [Env.view, Env.newRow, Env.drew, Env.ext] using this
 refine wpList_cons (awanted_sound ht hw) ?_
 unfold Oper.wp
 rw [run1]
 show wpList P ops _ _ (a.put o.dst _) _
 have hle := E.drew_le.trans hle'
 have hn := h c _ hc7 hcm rfl _ _ hok' hH' ((ht.mono hle.view).put o.dst hv)
 exact wpList_mono (fun e a w hl => lift_mono (hle.leN nb) (fun _ _ _ q => q) hl) l _ _ hn
theorem aops_appIn {o : Oper} {l : List Oper} {T : Slots} {H : Heap} {x y : Operand} {t u : TypeId} {ei : TypeId × TI} {e1 : PV} {tl : Tail} {id n c : Nat} {cs : List PV} (hid : H[id]? = some (.row cs)) (hw : awanted ops.toList T N o = some true)
  (hop : o.op = .call ⟨.builtin .append, #[x, y], #[t, u]⟩) (okx : okOpnd N x = true) (oky : okOpnd N y = true) (hx : aev T x = .msl id 0 n c) (hy : aev T y = .slice [e1] tl) (hn : n + 1 ≤ c) (hcs : cs.length = c * ei.2.sz)
  (hxs : e1.cells.length = ei.2.sz) (hcell : e1.cells.all PV.isCell = true)
  (hte : telem P t = some ei) (htu : (telem P u).isSome = true)
  (h : AOps P N nb ops Q l (updO T o.dst (.msl id 0 (n + 1) c)) (H.set id (.row (splice cs (n * ei.2.sz) e1.cells)))) : AOps P N nb ops Q (o :: l) T H := by
 refine aops_done hw (fun E a ho hH ht => ?_) h
 subst hH
 obtain ⟨e, i⟩ := ei
 obtain ⟨h1, h2⟩ := telem_some hte
 obtain ⟨dd, f, h3, h4, rfl⟩ := tinfo_some h2
 simp only at hxs hcs ⊢
 obtain ⟨eu, hue⟩ := telem_isSome htu
 have hvx := vrel_eval ht x okx
 have hvy := vrel_eval ht y oky
 rw [hx] at hvx
 rw [hy] at hvy
 have hxs' : ∀ q ∈ [e1], q.cells.length = f.size := fun q hq => by rw [List.mem_singleton.1 hq]; exact hxs
 obtain ⟨arrx, r1, r2, ady, capy, vy, hcy1, hcy2, _⟩ := run_first (P := P) (E := E) hvy hxs'
 have hfe : flatE [e1] = e1.cells := by simp [flatE]
 rw [hfe] at r2
 have vx : a.eval x = .slice (some ⟨E.ρ id, 0, none⟩) n c ∧ c ≤ maxLen ∧ E.view.born id := by
  generalize a.eval x = w at hvx
  cases hvx with
  | msl _ _ _ _ hbn hm => exact ⟨rfl, hm, hbn⟩
 obtain ⟨vx, hcm, hbn⟩ := vx
 obtain ⟨E', e1', e2, e3, e4⟩ := storeRow (P := P) (id := id) (off := n * f.size) arrx.toList e1.cells 0 E cs ho hid (by rw [Array.length_toList]; exact r2.1) (fun j hj => by
  have := r2.2 j hj
  rw [Array.getD_eq_getD_getElem?] at this
  rw [List.getD_eq_getElem?_getD, Array.getElem?_toList]; exact this) hcell (by
   rw [Array.length_toList, r2.1, hxs, hcs]
   have : (n + 1) * f.size ≤ c * f.size := Nat.mul_le_mul_right _ hn
   rw [Nat.add_mul] at this; omega)
 refine ⟨E', .slice (some ⟨E.ρ id, 0, none⟩) (n + 1) c, .inl ?_, e2, e3, by rw [e4, Nat.add_zero], ?_⟩
 ·unfold execOp
  rw [hop]
  simp only
  refine (run_builtin (c := ⟨.builtin .append, #[x, y], #[t, u]⟩) (a := a) (E := E) (P := P) (xs := [x, y]) (ts := [t, u]) (ty := o.type) rfl rfl rfl (s := Builtin.append_ #[t, u] o.type #[a.eval x, a.eval y]) rfl).trans ?_
  have r1' : (Builtin.firstCells f.size 1 (.slice ady 1 capy)).run P E.w = .ok arrx E.w := by have := r1; rw [vy] at this; exact this
  have vy' : a.eval y = .slice ady 1 capy := vy
  have hadd : (⟨E.ρ id, 0, none⟩ : Addr).add (n * f.size) = ⟨E.ρ id, n * f.size, none⟩ := by rw [add_plain, Nat.zero_add]
  simp only [Builtin.append_, List.getElem?_toArray, List.getElem?_cons_zero, List.getElem?_cons_succ, Sem.run_bind, run_under h1, run_size h4, run_under hue, Result.andThen_ok, Sem.run_pure, vx, vy', Builtin.lenOf, hn, if_true, if_false,
   Bool.not_false, Bool.false_eq_true, r1', hadd, e1']
 ·have := VRel.msl (V := E'.view) id 0 (n + 1) c (e2.view.born id hbn) hcm
  rw [e2.view.rho id hbn] at this
  exact this
theorem first_msl {E : Env} {v : Value} {id n sz : Nat} {cs : List PV} (ho : E.Ok) (hid : E.H[id]? = some (.row cs)) (hcs : cs.length = n * sz) (hv : VRel E.view v (.msl id 0 n n)) : ∃ ad, v = .slice ad n n ∧ ∃ arrs, (Builtin.firstCells sz n (.slice ad n n)).run P E.w = .ok arrs E.w ∧ RL E.view arrs cs := by
 cases hv with
 | msl _ _ _ _ hbn hm =>
  obtain ⟨arr, elem, h1, h2, h3, h4⟩ := ho.rows id cs hid
  refine ⟨_, rfl, _, run_loadCells E.w ⟨E.ρ id, 0, none⟩ (n * sz) (fun k => arr.getD k undef) (fun k hk => ?_), ⟨by simp [hcs], fun i hi => ?_⟩⟩
  ·rw [add_plain, Nat.zero_add, cell_row h1, Array.getD_eq_getD_getElem?, Array.getElem?_eq_getElem (by omega)]; rfl
  ·rw [Array.getD_eq_getD_getElem?]
   have hi' : i < n * sz := by omega
   simp only [List.getElem?_toArray, List.getElem?_map, List.getElem?_range hi', Option.map_some, Option.getD_some]
   exact h3 i hi
end
end Go.Abs
namespace Go.Abs
structure IIAt (P : Program) (t : TypeId) where
 f0 : Field
 f1 : Field
 ut : P.underlying t = some (.struct #[f0, f1])
 held : P.stoodInHeld t = false
 n0 : f0.name ≠ "_"
 n1 : f1.name ≠ "_"
 o0 : f0.offset = 0
 o1 : f1.offset = 1
 u0 : P.underlying f0.type = some (.int .i64)
 u1 : P.underlying f1.type = some (.int .i64)
 a0 : ∀ w, (isAgg f0.type).run P w = .ok false w
 a1 : ∀ w, (isAgg f1.type).run P w = .ok false w
 gu : P.eqGuardType P.depth t = false
section
variable {P : Program} {N nb : Nat} {ops : Array Oper} {Q : Post} {o : Oper} {l : List Oper} {T : Slots} {G : Nat → Bool} {H : Heap} {t y' : TypeId} {x y : Operand} {a b c d : Int}
end
end Go.Abs
namespace Go.Abs
open Go.ChangeMaps (setBlock)
section
variable {P : Program} {N nb : Nat} {ops : Array Oper} {Q : Post}
theorem MRel.length {V : View} : ∀ {ms : List MapEntry} {es : List (Int × PV)}, MRel V ms es → ms.length = es.length
 | [], [], _ => rfl
 | m :: ms, e :: es, h => by rw [List.length_cons, List.length_cons, MRel.length h.2.2]
 | [], _ :: _, h => h.elim
 | _ :: _, [], h => h.elim
theorem MRel.get {V : View} : ∀ {ms : List MapEntry} {es : List (Int × PV)}, MRel V ms es → ∀ (i : Nat) (h : i < ms.length) (h' : i < es.length), ms[i].key = .int .i64 es[i].1 ∧ VRel V ms[i].val es[i].2
 | m :: ms, e :: es, h, 0, _, _ => ⟨h.1, h.2.1⟩
 | m :: ms, e :: es, h, i + 1, h1, h2 => MRel.get h.2.2 i _ _
 | [], [], _, i, h, _ => absurd h (Nat.not_lt_zero _)
 | [], _ :: _, h, _, _, _ => h.elim
 | _ :: _, [], h, _, _, _ => h.elim
end
end Go.Abs
namespace Go.Abs
structure World.Re (w w' : World) (b : Nat) : Prop where
 os : w'.os = w.os
 tape : w'.tape = w.tape
 output : w'.output = w.output
 size : w.heap.size ≤ w'.heap.size
 other : ∀ x, x < w.heap.size → x ≠ b → w'.heap[x]? = w.heap[x]?
section
variable {E : Env} (h : E.Ok) {id : Nat} {cs : List PV} (hi : E.H[id]? = some (.row cs)) {w' : World} (ht : World.Re E.w w' (E.ρ id)) (cs' : List PV)
include h hi ht
end
end Go.Abs
namespace Go.Abs
section
variable {P : Program} {N nb : Nat} {Q : Post}
end
end Go.Abs
set_option linter.unusedSectionVars false
namespace Go.Abs
def dead : AObj := .glob 0 []
def Env.frz1 (E : Env) (id : Nat) : Env := { E with κ := fun b => if b = E.ρ id then .fixed else E.κ b, H := E.H.set id dead }
section
variable {E : Env} (ho : E.Ok) {id : Nat} {cs : List PV} (hid : E.H[id]? = some (.row cs))
include ho hid
theorem Env.frz1_mut : E.κ (E.ρ id) = .mut := by obtain ⟨_, _, _, _, _, h⟩ := ho.rows id cs hid; exact h
theorem Env.frz1_get {x : Nat} (hx : x ≠ id) : (E.frz1 id).H[x]? = E.H[x]? := by
 show (E.H.set id dead)[x]? = _
 rw [List.getElem?_set_ne (Ne.symm hx)]
theorem Env.frz1_at : (E.frz1 id).H[id]? = some dead := by
 show (E.H.set id dead)[id]? = _
 rw [List.getElem?_set_self (lG hid)]
theorem Env.frz1_row {x : Nat} {r : List PV} (h : (E.frz1 id).H[x]? = some (.row r)) : x ≠ id ∧ E.H[x]? = some (.row r) := by
 by_cases e : x = id
 ·subst e; rw [Env.frz1_at ho hid] at h; cases h
 ·exact ⟨e, by rw [← Env.frz1_get ho hid e]; exact h⟩
theorem Env.frz1_buf {x n sz : Nat} (h : (E.frz1 id).H[x]? = some (.buf n sz)) : E.H[x]? = some (.buf n sz) := by
 by_cases e : x = id
 ·subst e; rw [Env.frz1_at ho hid] at h; cases h
 ·rw [← Env.frz1_get ho hid e]; exact h
theorem Env.frz1_obj {x : Nat} {k : OKind} (h : (E.frz1 id).H[x]? = some (.obj k)) : x ≠ id ∧ E.H[x]? = some (.obj k) := by
 by_cases e : x = id
 ·subst e; rw [Env.frz1_at ho hid] at h; cases h
 ·exact ⟨e, by rw [← Env.frz1_get ho hid e]; exact h⟩
theorem Env.frz1_cell (a : Addr) (v : Value) (h : E.view.cell a = some v) : (E.frz1 id).view.cell a = some v := by
 simp only [Env.view] at h ⊢
 split at h
 ·rename_i hs
  have : ((E.frz1 id).κ a.block).stable a.off = true := by
   simp only [Env.frz1]
   split
   ·rfl
   ·exact hs
  rw [if_pos this]; exact h
 ·cases h
theorem Env.frz1_view : E.view.le (E.frz1 id).view := by
 refine ⟨Env.frz1_cell ho hid, fun x ⟨o, h1, h2⟩ => ?_, fun x _ => rfl, fun x t' _ ht => ⟨t', ?_, .inl rfl⟩⟩
 ·by_cases e : x = id
  ·subst e; exact ⟨dead, Env.frz1_at ho hid, by simp [dead]⟩
  ·exact ⟨o, by rw [Env.frz1_get ho hid e]; exact h1, h2⟩
 ·simp only [Env.view] at ht ⊢
  by_cases e : x = id
  ·subst e; rw [Env.frz1_at ho hid] at ht; simp [dead] at ht
  ·rw [Env.frz1_get ho hid e] at ht
   cases hx : E.H[x]? with
   | none => rw [hx] at ht; simp at ht
   | some o =>
    rw [hx] at ht
    cases o with
    | buf n sz =>
     simp only at ht ⊢
     rw [← ht]
     show some (TokI.mk n sz ((E.tb x).bind _)) = some (TokI.mk n sz ((E.tb x).bind _))
     cases htb : E.tb x with
     | none => rfl
     | some b =>
      simp only [Option.bind_some]
      obtain ⟨_, _, pos, _, hk⟩ := ho.bufs x n sz b hx htb
      have hne : b ≠ E.ρ id := fun e => by rw [e, Env.frz1_mut ho hid] at hk; cases hk
      have : (E.frz1 id).κ b = E.κ b := by simp only [Env.frz1]; rw [if_neg hne]
      rw [this]
    | _ => simp at ht
theorem Env.frz1_le : E.le (E.frz1 id) := by
 refine ⟨rfl, rfl, rfl, Nat.le_refl _, fun b hb h1 => ⟨?_, rfl⟩, Env.frz1_view ho hid, fun b hb => ?_⟩
 ·simp only [Env.frz1]
  rw [if_neg]
  rintro rfl
  exact h1 (.inl ⟨id, cs, hid, rfl⟩)
 ·rintro (⟨x, r, h1, h2⟩ | ⟨x, n, sz, h1, h2⟩ | ⟨x, k, h1, h2⟩)
  ·exact .inl ⟨x, r, (Env.frz1_row ho hid h1).2, h2⟩
  ·exact .inr (.inl ⟨x, n, sz, Env.frz1_buf ho hid h1, h2⟩)
  ·exact .inr (.inr ⟨x, k, (Env.frz1_obj ho hid h1).2, h2⟩)
theorem Env.Ok.frz1 : (E.frz1 id).Ok := by
 have hv := Env.frz1_view ho hid
 refine ⟨?_, ?_, ?_, ?_, ?_, ⟨?_, ?_⟩⟩
 ·intro x r hx
  obtain ⟨hne, hx⟩ := Env.frz1_row ho hid hx
  obtain ⟨arr, el, h1, h2, h3, h4⟩ := ho.rows x r hx
  refine ⟨arr, el, h1, h2, fun i hi => (h3 i hi).mono hv, ?_⟩
  show (if E.ρ x = E.ρ id then Kind.fixed else E.κ (E.ρ x)) = .mut
  rw [if_neg fun e => hne (ho.injr x id r cs hx hid e)]; exact h4
 ·intro x n sz b hx hb
  have hx := Env.frz1_buf ho hid hx
  obtain ⟨arr, el, pos, h1, h2⟩ := ho.bufs x n sz b hx hb
  refine ⟨arr, el, pos, h1, ?_⟩
  show (if b = E.ρ id then Kind.fixed else E.κ b) = _
  rw [if_neg fun e => by rw [e, Env.frz1_mut ho hid] at h2; cases h2]; exact h2
 ·intro x x' r r' hx hx' e
  exact ho.injr x x' r r' (Env.frz1_row ho hid hx).2 (Env.frz1_row ho hid hx').2 e
 ·intro x x' n sz n' sz' b hx hx' hb hb'
  exact ho.injb x x' n sz n' sz' b (Env.frz1_buf ho hid hx) (Env.frz1_buf ho hid hx') hb hb'
 ·intro x b vs hx i hi
  by_cases e : x = id
  ·subst e
   rw [Env.frz1_at ho hid] at hx
   injection hx with hx
   injection hx with _ hx
   subst hx
   exact absurd hi (Nat.not_lt_zero _)
  ·rw [Env.frz1_get ho hid e] at hx
   exact hv.cell _ _ (ho.globs x b vs hx i hi)
 ·intro x k hx
  obtain ⟨hne, hx⟩ := Env.frz1_obj ho hid hx
  obtain ⟨⟨o, h1, h2⟩, h3⟩ := ho.objs.at_ x k hx
  refine ⟨⟨o, h1, h2.mono hv⟩, ?_⟩
  show (if E.ρ x = E.ρ id then Kind.fixed else E.κ (E.ρ x)) = .mut
  rw [if_neg fun e => by
   obtain ⟨arr, el, a1, _⟩ := ho.rows id cs hid
   rw [e, a1] at h1; cases h1
   exact h2.cells]
  exact h3
 ·intro x x' k k' hx hx' e
  exact ho.objs.inj x x' k k' (Env.frz1_obj ho hid hx).2 (Env.frz1_obj ho hid hx').2 e
end
theorem Env.frz1_msl {E : Env} (ho : E.Ok) {v : Value} {id k c sz : Nat} {es : List PV} (h : VRel E.view v (.msl id 0 k c)) (hrow : E.H[id]? = some (.row (flatE es))) (hk : k ≤ es.length) (hkc : k ≤ c)
  (hes : ∀ e ∈ es, e.cells.length = sz) : VRel (E.frz1 id).view v (.slice (es.take k) .none) := by
 obtain ⟨arr, elem, h1, h2, h3, h4⟩ := ho.rows id _ hrow
 have hv := Env.frz1_view ho hrow
 cases h with
 | msl _ _ _ _ hbn hm =>
  have hlenf := flatE_length es hes
  have hfix : (E.frz1 id).κ (E.ρ id) = .fixed := by simp [Env.frz1]
  have hadd : ∀ n, (⟨E.ρ id, 0, none⟩ : Addr).add n = ⟨E.ρ id, n, none⟩ := by
   intro n; rw [add_plain]; simp
  have hbound : ∀ i j, i < k → j < sz → i * sz + j < es.length * sz := by
   intro i j hi hj
   have : (i + 1) * sz ≤ es.length * sz := Nat.mul_le_mul_right _ (by omega)
   rw [Nat.add_mul] at this; omega
  refine .slice _ k c sz (es.take k) .none (fun i j => arr.getD (i * sz + j) undef) (by rw [List.length_take]; omega) hkc hm (fun i hi => ?_) (fun i j hi hj => ?_) (fun i j hi hj => ?_) trivial
  ·rw [List.getElem_take]; exact hes _ (List.getElem_mem _)
  ·show (E.frz1 id).view.cell ((⟨E.ρ id, 0, none⟩ : Addr).add (i * sz + j)) = _
   rw [hadd]
   simp only [Env.view, hfix, Kind.stable, if_true]
   show E.w.cell? _ = _
   have := hbound i j hi hj
   rw [cell_row h1, Array.getD_eq_getD_getElem?, Array.getElem?_eq_getElem (by omega)]; rfl
  ·have hi' : i < es.length := by rw [List.length_take] at hi; omega
   simp only [List.getElem_take] at hj ⊢
   have hj' : j < sz := by rw [hes _ (List.getElem_mem hi')] at hj; exact hj
   have hb := hbound i j (by rw [List.length_take] at hi; omega) hj'
   have hf : i * sz + j < (flatE es).length := by rw [hlenf]; exact hb
   have hr := (h3 (i * sz + j) hf).mono hv
   have he : (flatE es)[i * sz + j] = (es[i].cells)[j] := by
    have hget := flatE_get es hes i j hi' hj'
    rw [List.getElem?_eq_getElem hf, List.getElem?_eq_getElem (by rw [hes _ (List.getElem_mem _)]; exact hj')] at hget
    exact Option.some.inj hget
   rw [he] at hr
   exact hr
inductive Fz (id k : Nat) (es : List PV) : PV → PV → Prop
 | same (p : PV) : Fz id k es p p
 | msl (c : Nat) (h : k ≤ c) : Fz id k es (.msl id 0 k c) (.slice (es.take k) .none)
 | agg (ps qs : List PV) (hl : ps.length = qs.length) (h : ∀ i (h1 : i < ps.length) (h2 : i < qs.length), Fz id k es ps[i] qs[i]) : Fz id k es (.agg ps) (.agg qs)
theorem Fz.rel {E : Env} (ho : E.Ok) {id k sz : Nat} {es : List PV} (hrow : E.H[id]? = some (.row (flatE es))) (hk : k ≤ es.length) (hes : ∀ e ∈ es, e.cells.length = sz) {p q : PV} (h : Fz id k es p q) : ∀ {v : Value}, VRel E.view v p → VRel (E.frz1 id).view v q := by
 induction h with
 | same p => intro v hv; exact hv.mono (Env.frz1_view ho hrow)
 | msl c hc => intro v hv; exact Env.frz1_msl ho hv hrow hk hc hes
 | agg ps qs hl _ ih =>
  intro v hv
  cases hv with
  | agg arr _ ha hr => exact .agg arr qs (by omega) fun i hi => ih i (by omega) hi (hr i (by omega))
section
variable {P : Program} {N nb : Nat} {Q : Post}
theorem awp_frz1 {c : Code} {T : Slots} {H : Heap} (id k sz t : Nat) (es : List PV) {p q : PV} (hrow : H[id]? = some (.row (flatE es))) (hk : k ≤ es.length) (hes : ∀ e ∈ es, e.cells.length = sz) (hT : T t = p) (hq : Fz id k es p q)
  (h : AWP P N nb c Q (upd T t q) (H.set id dead)) : AWP P N nb c Q T H := by
 intro E a ho hH ht
 subst hH
 have hle := Env.frz1_le ho hrow
 refine wp_mono (h (E.frz1 id) a (Env.Ok.frz1 ho hrow) rfl ⟨ht.size, ht.defers, fun i hi => ?_⟩) fun e a w hl => lift_mono (hle.leN nb) (fun _ _ _ q => q) hl
 unfold upd
 split
 ·rename_i e
  subst e
  have := ht.rel i hi
  rw [hT] at this
  exact hq.rel ho hrow hk hes this
 ·exact (ht.rel i hi).mono hle.view
end
end Go.Abs
namespace Go.Abs
def Ty.zero : Ty := .mk 0 0 []
abbrev MSt := List Ty × List Bool
structure MOk (n : Nat) (s : MSt) : Prop where
  l1 : s.1.length = n
  l2 : s.2.length = n
  w : ∀ a ∈ s.1, a.W
theorem idxI_lt {α : Type} {p : α → Bool} {xs : List α} (h : idxI p xs ≥ 0) : idxI p xs < xs.length := by
  unfold idxI at h ⊢
  cases hq : xs.findIdx? p with
  | none => rw [hq] at h; simp at h
  | some i =>
    obtain ⟨hi, _⟩ := List.findIdx?_eq_some_iff_getElem.1 hq
    simp only; omega
end Go.Abs
namespace Go.Abs
end Go.Abs
namespace Go.Abs
end Go.Abs
set_option maxRecDepth 4000
namespace Go.Abs
structure Tk where
  kind : Int
  text : List UInt8
def Tk.enc (t : Tk) : PV := .agg [.int .i64 t.kind, .str t.text]
theorem Tk.enc_eq (t : Tk) : t.enc = .agg [.int .i64 t.kind, .str t.text] := rfl
theorem Tk.enc_cells (t : Tk) : t.enc.cells = [.int .i64 t.kind, .str t.text] := rfl
theorem Tk.eta (t : Tk) : Tk.mk t.kind t.text = t := rfl
theorem Tk.enc_drop1 (t : Tk) : t.enc.drop1 = t.enc := by rw [Tk.enc_eq]; rfl
theorem Tk.enc_drop0 (t : Tk) : t.enc.drop0 = t.enc := by rw [Tk.enc_eq]; rfl
theorem Tk.enc_len (t : Tk) : t.enc.cells.length = 2 := by rw [Tk.enc_cells]; rfl
theorem Tk.enc_junk (t : Tk) : t.enc.isJunk = false := by rw [Tk.enc_eq]; rfl
theorem Tk.enc_agg (t : Tk) : PV.agg t.enc.cells = t.enc := by rw [Tk.enc_cells, Tk.enc_eq]
theorem Tk.bel (n : Nat) (t : Tk) : Bel n t.enc := .agg _ (by
  intro c hc
  simp only [List.mem_cons, List.not_mem_nil, or_false] at hc
  rcases hc with rfl | rfl
  · exact .int _ _
  · exact .str _)
theorem bel_Tk (n : Nat) (us : List Tk) : Bel n (.slice (us.map Tk.enc) .none) := .slice _ _ (fun e he c hc => by
  obtain ⟨b, _, rfl⟩ := List.mem_map.1 he
  have := Tk.bel n b
  rw [Tk.enc_eq] at this hc
  cases this with | agg _ h => exact h c hc) (by simp)
theorem bel_Tk_tok {n id : Nat} (us : List Tk) (h : id < n) : Bel n (.slice (us.map Tk.enc) (.tok id)) := by
  have := bel_Tk n us
  cases this with
  | slice _ _ h1 h2 => exact .slice _ _ h1 (fun _ e => by cases e; exact h)
theorem TkS : (∀ t : Tk, t.enc.cells = [.int .i64 t.kind, .str t.text]) ∧ (∀ t : Tk, t.enc.isJunk = false) ∧ (∀ t : Tk, t.enc.drop1 = t.enc) ∧ (∀ t : Tk, t.enc.drop0 = t.enc) ∧ (∀ (t : Tk) (b : Nat), t.enc.fits ⟨true, 2, b⟩ = true) :=
  ⟨Tk.enc_cells, Tk.enc_junk, Tk.enc_drop1, Tk.enc_drop0, fun t b => by rw [Tk.enc_eq]; rfl⟩
theorem TkF : (∀ (kind : Int) (text : List UInt8), PV.agg [.int .i64 kind, .str text] = (Tk.mk kind text).enc) ∧
    (∀ t : Tk, Tk.mk t.kind t.text = t) ∧
    (∀ (kind : Int) (text : List UInt8), (Tk.mk kind text).kind = kind) ∧
    (∀ (kind : Int) (text : List UInt8), (Tk.mk kind text).text = text) :=
  ⟨fun kind text => (Tk.enc_eq (Tk.mk kind text)).symm, Tk.eta, fun _ _ => rfl, fun _ _ => rfl⟩
def Tk.W (t : Tk) : Prop := t.text.length ≤ 2 ^ 47
theorem app_Tk {us : List Tk} {u : Tk} {id : Nat} {tl : Tail} (hb : (us.length + 1) * 24 ≤ 2 ^ 47) (fresh : Nat) (H : Heap) (hH : H[id]? = some (.buf us.length 2)) :
    aappend ⟨true, 2, 24⟩ fresh H (.slice (us.map Tk.enc) (.tok id)) (.slice [u.enc] tl) = some (.slice ((us ++ [u]).map Tk.enc) (.tok id), some (id, .buf (us.length + 1) 2)) := by
  have hmx : maxLen = 9223372036854775807 := by decide
  rw [aappend_tok1 (n := us.length) hH (by simp) (by simpa using hb) (by simp; omega) (fun e he => by obtain ⟨v, _, rfl⟩ := List.mem_map.1 he; exact v.enc_len) u.enc_len (by rw [Tk.enc_cells]; rfl) (by decide)]
  simp
inductive St where
  | mk (kind : Int) (text : List UInt8) (ch : List (St))
def St.kind : St → Int | .mk x0 _ _ => x0
def St.text : St → List UInt8 | .mk _ x1 _ => x1
def St.ch : St → List (St) | .mk _ _ x2 => x2
mutual
def St.enc : St → PV
  | .mk x0 x1 x2 => .agg [.int .i64 x0, .str x1, .slice (stEncs x2) .none]
def stEncs : List St → List PV
  | [] => []
  | t :: ts => t.enc :: stEncs ts
end
theorem stEncs_eq (ts : List St) : stEncs ts = ts.map St.enc := by
  induction ts with
  | nil => rfl
  | cons t ts ih => simp [stEncs, ih]
theorem St.enc_eq (t : St) : t.enc = .agg [.int .i64 t.kind, .str t.text, .slice (t.ch.map St.enc) .none] := by
  cases t; simp [St.enc, stEncs_eq, St.kind, St.text, St.ch]
theorem St.enc_cells (t : St) : t.enc.cells = [.int .i64 t.kind, .str t.text, .slice (t.ch.map St.enc) .none] := by
  rw [St.enc_eq]; rfl
theorem St.eta (t : St) : St.mk t.kind t.text t.ch = t := by cases t; rfl
theorem St.enc_drop1 (t : St) : t.enc.drop1 = t.enc := by rw [St.enc_eq]; rfl
theorem St.enc_drop0 (t : St) : t.enc.drop0 = t.enc := by rw [St.enc_eq]; rfl
theorem St.enc_len (t : St) : t.enc.cells.length = 3 := by rw [St.enc_cells]; rfl
theorem St.enc_junk (t : St) : t.enc.isJunk = false := by rw [St.enc_eq]; rfl
theorem St.enc_agg (t : St) : PV.agg t.enc.cells = t.enc := by rw [St.enc_cells, St.enc_eq]
mutual
theorem St.bel (n : Nat) : ∀ t : St, Bel n t.enc
  | .mk x0 x1 x2 => .agg _ (by
      intro c hc
      simp only [List.mem_cons, List.not_mem_nil, or_false] at hc
      rcases hc with rfl | rfl | rfl
      · exact .int _ _
      · exact .str _
      · exact .slice _ _ (stEncsBel n x2) (fun id h => by cases h))
theorem stEncsBel (n : Nat) : ∀ ts : List St, ∀ e ∈ stEncs ts, ∀ c ∈ e.cells, Bel n c
  | [] => fun e he => by simp [stEncs] at he
  | t :: ts => fun e he c hc => by
    simp only [stEncs, List.mem_cons] at he
    rcases he with rfl | he
    · have h := St.bel n t
      rw [St.enc_eq] at h hc
      cases h with
      | agg _ q => exact q c hc
    · exact stEncsBel n ts e he c hc
end
theorem bel_St (n : Nat) (ts : List St) : Bel n (.slice (ts.map St.enc) .none) := by
  rw [← stEncs_eq]; exact .slice _ _ (stEncsBel n ts) (fun id h => by cases h)
mutual
def St.size : St → Nat
  | .mk _ _ x2 => 1 + stSizes x2
def stSizes : List St → Nat
  | [] => 0
  | t :: ts => t.size + stSizes ts
end
theorem stSizes_mem {u : St} : ∀ {us : List St}, u ∈ us → u.size ≤ stSizes us
  | [], h => by cases h
  | v :: us, h => by
    simp only [stSizes]
    rcases List.mem_cons.1 h with rfl | h
    · omega
    · have := stSizes_mem h; omega
theorem St.size_ch {t u : St} (h : u ∈ t.ch) : u.size < t.size := by
  cases t with
  | mk x0 x1 x2 => have := stSizes_mem (us := x2) h; simp only [St.size]; omega
theorem StS : (∀ t : St, t.enc.cells = [.int .i64 t.kind, .str t.text, .slice (t.ch.map St.enc) .none]) ∧ (∀ t : St, t.enc.isJunk = false) ∧ (∀ t : St, t.enc.drop1 = t.enc) ∧ (∀ t : St, t.enc.drop0 = t.enc) ∧ (∀ (t : St) (b : Nat), t.enc.fits ⟨true, 3, b⟩ = true) :=
  ⟨St.enc_cells, St.enc_junk, St.enc_drop1, St.enc_drop0, fun t b => by rw [St.enc_eq]; rfl⟩
theorem StF : (∀ (kind : Int) (text : List UInt8) (ch : List (St)), PV.agg [.int .i64 kind, .str text, .slice (ch.map St.enc) .none] = (St.mk kind text ch).enc) ∧
    (∀ (kind : Int) (text : List UInt8), PV.agg [.int .i64 kind, .str text, .slice [] .none] = (St.mk kind text []).enc) ∧
    (∀ t : St, St.mk t.kind t.text t.ch = t) ∧
    (∀ (kind : Int) (text : List UInt8) (ch : List (St)), (St.mk kind text ch).kind = kind) ∧
    (∀ (kind : Int) (text : List UInt8) (ch : List (St)), (St.mk kind text ch).text = text) ∧
    (∀ (kind : Int) (text : List UInt8) (ch : List (St)), (St.mk kind text ch).ch = ch) :=
  ⟨fun kind text ch => (St.enc_eq (St.mk kind text ch)).symm, fun kind text => (St.enc_eq (St.mk kind text [])).symm, St.eta, fun _ _ _ => rfl, fun _ _ _ => rfl, fun _ _ _ => rfl⟩
inductive St.W : St → Prop
  | mk {kind : Int} {text : List UInt8} {ch : List (St)} (h0 : text.length ≤ 2 ^ 47) (h1 : ch.length * 48 ≤ 2 ^ 47) (kch : ∀ u ∈ ch, St.W u) : St.W (.mk kind text ch)
theorem St.W.w0 {t : St} (h : t.W) : t.text.length ≤ 2 ^ 47 := by cases h; assumption
theorem St.W.w1 {t : St} (h : t.W) : t.ch.length * 48 ≤ 2 ^ 47 := by cases h; assumption
theorem St.W.ch {t u : St} (h : t.W) (hu : u ∈ t.ch) : u.W := by cases h with | mk => exact (by assumption : ∀ u ∈ _, St.W u) u hu
theorem qC : type_of% (aI @TkS (aI @TkF (aI @StS (@StF)))) := aI @TkS (aI @TkF (aI @StS (@StF)))
end Go.Abs
set_option maxRecDepth 4000
namespace Go.Abs
theorem a2 {p q : Prop} (a : p) (b : q) : p ∧ q := ⟨a, b⟩
theorem a3 {p q r : Prop} (a : p) (b : q) (c : r) : p ∧ q ∧ r := ⟨a, b, c⟩
theorem a4 {p q r s : Prop} (a : p) (b : q) (c : r) (d : s) : p ∧ q ∧ r ∧ s := ⟨a, b, c, d⟩
theorem a5 {p q r s t : Prop} (a : p) (b : q) (c : r) (d : s) (e : t) : p ∧ q ∧ r ∧ s ∧ t := ⟨a, b, c, d, e⟩
section
variable {P : Program} {N nb : Nat} {ops : Array Oper} {Q : Post} {A X : Prop} {T T' : Slots} {H H' : Heap} {l : List Oper} {o : Oper}
theorem qE {id : Nat} (x : X) (h : Q .normal T' H') (t : AWP P N nb (.region id ops false) Q T H → A := by
    intro z
    repeat refine wS ?_
    exact z) (hs : X → asq P N ops.toList ops.toList (some (T, H)) = some (T', H') := by intro z; simp only [kA, seval, vint, qC, z] <;> with_reducible rfl) (hok : ops.toList.all (fun o => okOp N o.op) = true := by decide) : A := t (eE (hs x) hok h)
theorem qE0 {id : Nat} (h : Q .normal T' H') (t : AWP P N nb (.region id ops false) Q T H → A := by
    intro z
    repeat refine wS ?_
    exact z) (hs : asq P N ops.toList ops.toList (some (T, H)) = some (T', H') := by simp only [kA, seval, vint, qC] <;> with_reducible rfl) (hok : ops.toList.all (fun o => okOp N o.op) = true := by decide) : A := t (eE hs hok h)
theorem qT {id : Nat} (n : Nat) (x : X) (h : AOps P N nb ops Q (ops.toList.drop n) T' H') (t : AWP P N nb (.region id ops false) Q T H → A := by
    intro z
    repeat refine wS ?_
    exact z) (hs : X → asq P N ops.toList (ops.toList.take n) (some (T, H)) = some (T', H') := by intro z; simp only [kA, seval, vint, qC, z] <;> with_reducible rfl) (hok : (ops.toList.take n).all (fun o => okOp N o.op) = true := by decide) : A := t (wR (eT n (hs x) hok h))
theorem qT0 {id : Nat} (n : Nat) (h : AOps P N nb ops Q (ops.toList.drop n) T' H') (t : AWP P N nb (.region id ops false) Q T H → A := by
    intro z
    repeat refine wS ?_
    exact z) (hs : asq P N ops.toList (ops.toList.take n) (some (T, H)) = some (T', H') := by simp only [kA, seval, vint, qC] <;> with_reducible rfl) (hok : (ops.toList.take n).all (fun o => okOp N o.op) = true := by decide) : A := t (wR (eT n hs hok h))
theorem qU (n : Nat) (x : X) (h : AOps P N nb ops Q (l.drop n) T' H') (hs : X → asq P N ops.toList (l.take n) (some (T, H)) = some (T', H') := by intro z; simp only [kA, seval, vint, qC, z] <;> with_reducible rfl) (hok : (l.take n).all (fun o => okOp N o.op) = true := by decide) : AOps P N nb ops Q l T H := eT n (hs x) hok h
theorem qU0 (n : Nat) (h : AOps P N nb ops Q (l.drop n) T' H') (hs : asq P N ops.toList (l.take n) (some (T, H)) = some (T', H') := by simp only [kA, seval, vint, qC] <;> with_reducible rfl) (hok : (l.take n).all (fun o => okOp N o.op) = true := by decide) : AOps P N nb ops Q l T H := eT n hs hok h
theorem qX (x : X) (h : Q .normal T' H') (hs : X → asq P N ops.toList l (some (T, H)) = some (T', H') := by intro z; simp only [kA, seval, vint, qC, z] <;> with_reducible rfl) (hok : l.all (fun o => okOp N o.op) = true := by decide) : AOps P N nb ops Q l T H := e_end (hs x) hok h
theorem qX0 (h : Q .normal T' H') (hs : asq P N ops.toList l (some (T, H)) = some (T', H') := by simp only [kA, seval, vint, qC] <;> with_reducible rfl) (hok : l.all (fun o => okOp N o.op) = true := by decide) : AOps P N nb ops Q l T H := e_end hs hok h
theorem qP {f : FuncId} {args : List PV} {r : PV} (x : X) (hgo : goFn P f = true) (hc : ACalls P f args H fun r' H'' => r' = r ∧ H'' = H) (h : AOps P N nb ops Q l (updO T o.dst r) H) (hcall : X → acall T o.op = some (f, args) := by intro z; simp only [kC, seval, vint, qC, z] <;> first | with_reducible rfl | rfl) (hw : X → awanted ops.toList T N o = some true := by intro z; simp only [kC, seval, vint, qC, z]) (hok : okOp N o.op = true := by decide) : AOps P N nb ops Q (o :: l) T H := oP (hcall x) (hw x) hok hgo hc h
theorem qP0 {f : FuncId} {args : List PV} {r : PV} (hgo : goFn P f = true) (hc : ACalls P f args H fun r' H'' => r' = r ∧ H'' = H) (h : AOps P N nb ops Q l (updO T o.dst r) H) (hcall : acall T o.op = some (f, args) := by simp only [kC, seval, vint, qC] <;> first | with_reducible rfl | rfl) (hw : awanted ops.toList T N o = some true := by simp only [kC, seval, vint, qC]) (hok : okOp N o.op = true := by decide) : AOps P N nb ops Q (o :: l) T H := oP hcall hw hok hgo hc h
theorem qA {f : FuncId} {args : List PV} {R : PV → Heap → Prop} (x : X) (hgo : goFn P f = true) (hc : ACalls P f args H R) (h : ∀ r H', R r H' → AOps P N nb ops Q l (updO T o.dst r) H') (hcall : X → acall T o.op = some (f, args) := by intro z; simp only [kC, seval, vint, qC, z] <;> first | with_reducible rfl | rfl) (hw : X → awanted ops.toList T N o = some true := by intro z; simp only [kC, seval, vint, qC, z]) (hok : okOp N o.op = true := by decide) : AOps P N nb ops Q (o :: l) T H := oC (hcall x) (hw x) hok hgo hc h
theorem qA0 {f : FuncId} {args : List PV} {R : PV → Heap → Prop} (hgo : goFn P f = true) (hc : ACalls P f args H R) (h : ∀ r H', R r H' → AOps P N nb ops Q l (updO T o.dst r) H') (hcall : acall T o.op = some (f, args) := by simp only [kC, seval, vint, qC] <;> first | with_reducible rfl | rfl) (hw : awanted ops.toList T N o = some true := by simp only [kC, seval, vint, qC]) (hok : okOp N o.op = true := by decide) : AOps P N nb ops Q (o :: l) T H := oC hcall hw hok hgo hc h
theorem qI {c : Operand} {c1 c2 : Code} {b : Bool} (x : X) (h1 : b = true → AWP P N nb c1 Q T H) (h2 : b = false → AWP P N nb c2 Q T H) (t : AWP P N nb (.cond c c1 c2) Q T H → A := by
    intro z
    repeat refine wS ?_
    exact z) (hc : okOpnd N c = true := by rfl) (hb : X → aev T c = .bool b := by intro z; simp only [jN, seval, vint, qC, z] <;> with_reducible rfl) : A := t (wC hc (hb x) h1 h2)
theorem qI0 {c : Operand} {c1 c2 : Code} {b : Bool} (h1 : b = true → AWP P N nb c1 Q T H) (h2 : b = false → AWP P N nb c2 Q T H) (t : AWP P N nb (.cond c c1 c2) Q T H → A := by
    intro z
    repeat refine wS ?_
    exact z) (hc : okOpnd N c = true := by rfl) (hb : aev T c = .bool b := by simp only [jN, seval, vint, qC] <;> with_reducible rfl) : A := t (wC hc hb h1 h2)
theorem qF {c : Operand} {c1 c2 : Code} (x : X) (h : AWP P N nb c2 Q T H) (t : AWP P N nb (.cond c c1 c2) Q T H → A := by
    intro z
    repeat refine wS ?_
    exact z) (hc : okOpnd N c = true := by rfl) (hb : X → aev T c = .bool false := by intro z; simp only [jN, seval, vint, qC, z] <;> with_reducible rfl) : A := t (wF hc (hb x) h)
theorem qL (live : List Nat) {m : List (Nat × PV)} {c : Code} (x : X) (h : AWP P N nb c Q (mkS m) H) (hl : X → live.map (fun d => (d, T d)) = m := by intro z; simp only [jN, seval, vint, qC, z] <;> with_reducible rfl) : AWP P N nb c Q T H := wL live (hl x) h
theorem qL0 (live : List Nat) {m : List (Nat × PV)} {c : Code} (h : AWP P N nb c Q (mkS m) H) (hl : live.map (fun d => (d, T d)) = m := by simp only [jN, seval, vint, qC] <;> with_reducible rfl) : AWP P N nb c Q T H := wL live hl h
theorem qK (h : Q .normal T H) (t : AWP P N nb .skip Q T H → A := by
    intro z
    repeat refine wS ?_
    exact z) : A := t (wK h)
theorem qB {id : Nat} {c : Code} (h : AWP P N nb c (blockQ id Q) T H) (t : AWP P N nb (.block id c) Q T H → A := by
    intro z
    repeat refine wS ?_
    exact z) : A := t (awp_block h)
theorem gE {id : Nat} {F : Slots} {G' : Nat → Bool} (x : X) (h : Q .normal F H') (t : AWP P N nb (.region id ops false) Q T H → A := by
    intro z
    repeat refine wS ?_
    exact z) (hs : X → gsq P N ops.toList ops.toList (some (T, allG, H)) = some (T', G', H') := by intro z; simp only [jG, jO, jN, seval, vint, qC, z] <;> with_reducible rfl) (hok : ops.toList.all (fun o => okOp N o.op) = true := by decide) (hf : Fin T' G' F := by repeat (first | exact Fin.base _ | with_reducible apply Fin.keep | apply Fin.drop)) : A := t (g_eval (hs x) hok hf h)
theorem gT (n : Nat) {G G' : Nat → Bool} (x : X) (h : AOps P N nb ops Q (l.drop n) (msk (.tup []) T' G') H') (hs : X → gsq P N ops.toList (l.take n) (some (T, G, H)) = some (T', G', H') := by intro z; simp only [jG, jO, jN, seval, vint, qC, z] <;> with_reducible rfl) (hok : (l.take n).all (fun o => okOp N o.op) = true := by decide) : AOps P N nb ops Q l (msk (.tup []) T G) H := g_take n (hs x) hok h
theorem gX {F : Slots} {G G' : Nat → Bool} (x : X) (h : Q .normal F H') (hs : X → gsq P N ops.toList l (some (T, G, H)) = some (T', G', H') := by intro z; simp only [jG, jO, jN, seval, vint, qC, z] <;> with_reducible rfl) (hok : l.all (fun o => okOp N o.op) = true := by decide) (hf : Fin T' G' F := by repeat (first | exact Fin.base _ | with_reducible apply Fin.keep | apply Fin.drop)) : AOps P N nb ops Q l (msk (.tup []) T G) H := g_end (hs x) hok hf h
theorem pT (n : Nat) {k : Nat} {G G' : Nat → Bool} (x : X) (h : DP P N ops Q (k + (l.take n).length) (l.drop n) (msk (.tup []) T' G') H') (hs : X → psq P N ops.toList (l.take n) (some (T, G, H)) = some (T', G', H') := by intro z; simp only [jP, jO, jN, seval, vint, qC, z] <;> with_reducible rfl) (hok : (l.take n).all (fun o => okOp N o.op) = true := by decide) : DP P N ops Q k l (msk (.tup []) T G) H := dp_take n (hs x) hok h
theorem pX {k : Nat} {F : Slots} {G G' : Nat → Bool} (x : X) (h : Q .normal F H') (hs : X → psq P N ops.toList l (some (T, G, H)) = some (T', G', H') := by intro z; simp only [jP, jO, jN, seval, vint, qC, z] <;> with_reducible rfl) (hok : l.all (fun o => okOp N o.op) = true := by decide) (hf : Fin T' G' F := by repeat (first | exact Fin.base _ | with_reducible apply Fin.keep | apply Fin.drop)) : DP P N ops Q k l (msk (.tup []) T G) H := dp_end (hs x) hok hf h
theorem pS {k : Nat} {G : Nat → Bool} (x : X) (h : DP P N ops Q (k + 1) l (msk (.tup []) (updO T o.dst (.tup [])) (ugO G o.dst false)) H) (hc : X → gcond ops.toList T G N o = some false := by intro z; simp only [kE, seval, vint, qC, z] <;> with_reducible rfl) : DP P N ops Q k (o :: l) (msk (.tup []) T G) H := dp_skip (hc x) h
theorem gS {G : Nat → Bool} (x : X) (h : AOps P N nb ops Q l (msk (.tup []) (updO T o.dst (.tup [])) (ugO G o.dst false)) H) (hc : X → gcond ops.toList T G N o = some false := by intro z; simp only [kE, seval, vint, qC, z] <;> with_reducible rfl) : AOps P N nb ops Q (o :: l) (msk (.tup []) T G) H := aops_gskip (hc x) h
theorem pK {k : Nat} {G : Nat → Bool} {c : Bool} {f : FuncId} {args : List PV} {r : PV} (x : X) (hgo : goFn P f = true) (hp : c = true → ACalls P f args H fun r' H'' => r' = r ∧ H'' = H) (h : DP P N ops Q (k + 1) l (msk (.tup []) (updO T o.dst r) (ugO G o.dst c)) H) (hcall : X → acall T o.op = some (f, args) := by intro z; simp only [kE, seval, vint, qC, z] <;> first | with_reducible rfl | rfl) (hc : X → gcond ops.toList T G N o = some c := by intro z; simp only [kE, seval, vint, qC, z] <;> with_reducible rfl) (hg : X → o.op.operands.toList.all (gOk c G) = true := by intro z; simp only [kE, seval, vint, qC, z]) (hok : okOp N o.op = true := by decide) : DP P N ops Q k (o :: l) (msk (.tup []) T G) H := dp_keep (hcall x) (hc x) (hg x) hok hgo hp h
theorem gP {G : Nat → Bool} {c : Bool} {f : FuncId} {args : List PV} {r : PV} (x : X) (hgo : goFn P f = true) (hp : c = true → ACalls P f args H fun r' H'' => r' = r ∧ H'' = H) (h : AOps P N nb ops Q l (msk (.tup []) (updO T o.dst r) (ugO G o.dst c)) H) (hcall : X → acall T o.op = some (f, args) := by intro z; simp only [kE, seval, vint, qC, z] <;> first | with_reducible rfl | rfl) (hc : X → gcond ops.toList T G N o = some c := by intro z; simp only [kE, seval, vint, qC, z] <;> with_reducible rfl) (hg : X → o.op.operands.toList.all (gOk c G) = true := by intro z; simp only [kE, seval, vint, qC, z]) (hok : okOp N o.op = true := by decide) : AOps P N nb ops Q (o :: l) (msk (.tup []) T G) H := aops_gpure (hcall x) (hc x) (hg x) hok hgo hp h
end
end Go.Abs
set_option maxRecDepth 4000
namespace Go.Abs
theorem xQ {p : Prop} (h : p := by first | exact bel_ints _ _ _ (fun _ h => by cases h; first | (simp; done) | (simp; omega)) | exact Tk.bel _ _ | exact St.bel _ _ | exact Ed.bel _ _ | exact Cd.bel _ _ | exact bel_strs0 _ _ | exact bel_St _ _ | exact bel_Tk _ _ | exact bel_Cd _ _ | exact bel_ints0 _ _ | exact bel_nil0 _ | exact bel_nil1 _ | exact Bel.optr _ _ (by first | (simp; done) | (simp; omega)) | exact Bel.int _ _ | exact Bel.bool _ | exact Bel.str _ | exact Bel.nilp | exact Bel.nilfn | exact bel_fn0 _ _ | assumption) : p := h
theorem xR {p : Prop} (h : p := by repeat (first | exact BelL.nil | refine BelL.cons xQ ?_)) : p := h
theorem xH {p : Prop} (h : p := by repeat (first | exact hbel_nil _ | exact trivial | exact obel_row_nil _ | (refine HBel.cons ?_ ?_) | (refine obel_row_cons xQ ?_))) : p := h
section
variable {P : Program} {N nb : Nat} {ops : Array Oper} {Q : Post} {A X : Prop} {T T' : Slots} {H H' : Heap} {o : Oper} {f : FuncId} {args : List PV} {R : PV → Heap → Prop}
theorem qN (x : X) (hc : ACalls P f args H R) (h : ∀ r H', R r H' → Q .normal (updO T o.dst r) H') (hcall : X → acall T o.op = some (f, args) := by intro z; simp only [kC, seval, vint, qC, z] <;> first | with_reducible rfl | rfl) (hw : X → awanted ops.toList T N o = some true := by intro z; simp only [kC, seval, vint, qC, z]) (hok : okOp N o.op = true := by decide) (hgo : goFn P f = true := by kernel_rfl) : AOps P N nb ops Q [o] T H := oC (hcall x) (hw x) hok hgo hc fun r H' k => oN (h r H' k)
theorem qW {id : Nat} (n : Nat) (x : X) (hc : ACalls P f args H' R) (h : ∀ r H', R r H' → Q .normal (updO T' o.dst r) H') (t : AWP P N nb (.region id ops false) Q T H → A := by
    intro z
    repeat refine wS ?_
    exact z) (hs : X → asq P N ops.toList (ops.toList.take n) (some (T, H)) = some (T', H') := by intro z; simp only [kA, seval, vint, qC, z] <;> with_reducible rfl) (ho : ops.toList.drop n = [o] := by rfl) (hok : (ops.toList.take n).all (fun o => okOp N o.op) = true := by decide) (hcall : X → acall T' o.op = some (f, args) := by intro z; simp only [kC, seval, vint, qC, z] <;> first | with_reducible rfl | rfl) (hw : X → awanted ops.toList T' N o = some true := by intro z; simp only [kC, seval, vint, qC, z]) (hk : okOp N o.op = true := by decide) (hgo : goFn P f = true := by kernel_rfl) : A :=
  t (wR (eT n (hs x) hok (ho ▸ qN x hc h hcall hw hk hgo)))
end
end Go.Abs
namespace Go.Abs
def isSpB (c : UInt8) : Bool := c == 32 || c == 9 || c == 10 || c == 13
def isLetB (c : UInt8) : Bool := (decide (97 ≤ c) && decide (c ≤ 122)) || (decide (65 ≤ c) && decide (c ≤ 90)) || c == 95
def isDigB (c : UInt8) : Bool := decide (48 ≤ c) && decide (c ≤ 57)
def notNl (c : UInt8) : Bool := !(c == 10)
def wordB (c : UInt8) : Bool := isLetB c || isDigB c
def runL (p : UInt8 → Bool) : List UInt8 → Nat
  | [] => 0
  | c :: r => if p c then runL p r + 1 else 0
theorem runL_le (p : UInt8 → Bool) : ∀ s, runL p s ≤ s.length
  | [] => Nat.le_refl _
  | c :: r => by have := runL_le p r; simp only [runL, List.length_cons]; split <;> omega
theorem runL_pos {p : UInt8 → Bool} {c : UInt8} {r : List UInt8} : 0 < runL p (c :: r) ↔ p c = true := by
  simp only [runL]; split <;> simp_all
theorem runL_drop {p : UInt8 → Bool} {s : List UInt8} {i : Nat} (h : i < s.length) : runL p (s.drop i) = if p s[i] then runL p (s.drop (i + 1)) + 1 else 0 := by
  rw [List.drop_eq_getElem_cons h, runL]
def litG : Bool → List UInt8 → Option Nat
  | _, [] => none
  | e, c :: r => if c = 10 then none else if c = 34 ∧ e = false then some 1 else (litG (decide (c = 92) && !e) r).map (· + 1)
def litO : List UInt8 → Option Nat
  | [] => none
  | [c] => if c = 34 then some 1 else none
  | c :: d :: r => if c = 10 then none else if c = 34 then some 1 else if c = 92 ∧ d ≠ 10 then (litO r).map (· + 2) else (litO (d :: r)).map (· + 1)
theorem litO_eq : ∀ s, litO s = litG false s
  | [] => rfl
  | [c] => by
    simp only [litO, litG]
    by_cases h1 : c = 34
    · subst h1; simp
    · by_cases h2 : c = 10 <;> simp [h1, h2]
  | c :: d :: r => by
    have i1 := litO_eq r
    have i2 := litO_eq (d :: r)
    simp only [litO]
    rw [litG]
    by_cases h1 : c = 10
    · simp [h1]
    · rw [if_neg h1, if_neg h1]
      by_cases h2 : c = 34
      · simp [h2]
      · have e2 : (c = 34 ∧ (false : Bool) = false) = False := by simp [h2]
        simp only [h2, if_false, e2]
        by_cases h3 : c = 92
        · by_cases h4 : d = 10
          · have e3 : (c = 92 ∧ d ≠ 10) = False := by simp [h4]
            simp only [e3, if_false]
            rw [i2]
            simp [litG, h3, h4]
          · have e3 : (c = 92 ∧ d ≠ 10) = True := by simp [h3, h4]
            simp only [e3, if_true]
            rw [i1]
            simp [litG, h3, h4, Option.map_map, Function.comp_def]
        · have e3 : (c = 92 ∧ d ≠ 10) = False := by simp [h3]
          simp only [e3, if_false]
          rw [i2]
          simp [h3]
theorem litG_le : ∀ (s : List UInt8) (e : Bool) (k : Nat), litG e s = some k → 1 ≤ k ∧ k ≤ s.length
  | [], e, k, h => by cases h
  | c :: r, e, k, h => by
    rw [litG] at h
    split at h
    · cases h
    · split at h
      · cases h; simp
      · cases hq : litG (decide (c = 92) && !e) r with
        | none => rw [hq] at h; cases h
        | some m =>
          rw [hq] at h
          simp only [Option.map_some, Option.some.injEq] at h
          have := litG_le r _ m hq
          simp only [List.length_cons]; omega
def bytesOf (s : String) : List UInt8 := s.toUTF8.data.toList
def kwL : List (List UInt8) := [[117, 115, 101], [112, 117, 98], [97, 115], [102, 110], [115, 116, 114, 117, 99, 116], [101, 110, 117, 109], [116, 114, 97, 105, 116], [105, 109, 112, 108], [102, 111, 114], [99, 111, 110, 115, 116], [109, 97, 99, 114, 111], [108, 101, 116], [109, 117, 116], [119, 104, 105, 108, 101], [114, 101, 116, 117, 114, 110], [109, 97, 116, 99, 104], [105, 102], [101, 108, 115, 101], [110, 101, 119], [116, 114, 117, 101], [102, 97, 108, 115, 101], [116, 121, 112, 101]]
def twoL : List (List UInt8) := ["::", "=>", "->", "==", "&&", "||"].map bytesOf
def oneL : List UInt8 := [40, 41, 123, 125, 91, 93, 60, 62, 44, 59, 58, 46, 61, 43, 45, 42, 47, 33, 38, 124]
def firstT (s : List UInt8) : Nat × Int :=
  match s with
  | [] => (0, 0)
  | c :: r =>
    if isSpB c then (runL isSpB s, 101)
    else if s.take 2 = [47, 47] then (runL notNl s, 102)
    else if isLetB c then (if kwL.contains (s.take (runL wordB s)) then (runL wordB s, 104) else (runL wordB s, 103))
    else if isDigB c then (runL isDigB s, 105)
    else if c = 34 then (match litG false r with | some k => (k + 1, 106) | none => (runL notNl s, 108))
    else if s.length > 1 ∧ twoL.contains (s.take 2) = true then (2, 107)
    else if oneL.contains c then (1, 107)
    else (1, 108)
theorem firstT_bd {s : List UInt8} (h : s ≠ []) : 1 ≤ (firstT s).1 ∧ (firstT s).1 ≤ s.length := by
  cases s with
  | nil => exact absurd rfl h
  | cons c r =>
    have key : ∀ p : UInt8 → Bool, p c = true → 1 ≤ runL p (c :: r) ∧ runL p (c :: r) ≤ (c :: r).length := fun p hp => ⟨runL_pos.2 hp, runL_le _ _⟩
    unfold firstT
    simp only
    split
    · exact key _ ‹_›
    · split
      · rename_i h2
        refine key _ ?_
        have : c = 47 := by simpa using (List.cons.inj h2).1
        subst this; rfl
      · split
        · rename_i h3
          have := key wordB (by unfold wordB; rw [h3]; rfl)
          split <;> exact this
        · split
          · exact key _ ‹_›
          · split
            · rename_i h5
              split
              · rename_i k hk
                have := litG_le _ _ _ hk
                simp only [List.length_cons]; omega
              · refine key _ ?_
                subst h5; rfl
            · split
              · rename_i h6; simp only [List.length_cons] at h6 ⊢; omega
              · split <;> simp
def tokL : Nat → List UInt8 → List Tk
  | 0, _ => []
  | n + 1, s => if s = [] then [] else ⟨(firstT s).2, s.take (firstT s).1⟩ :: tokL n (s.drop (firstT s).1)
end Go.Abs
