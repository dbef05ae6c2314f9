/- Contracts of functions, each by its evaluation. -/
import Derived.Test.YtihhlajibgoemaaGreatEvMd
import Derived.Test.YtihhlajibgoemaaGreatProg
import Derived.KernelRfl
import Derived.Test.YtihhlajibgoemaaGreatFLcd
set_option linter.unusedVariables false
set_option linter.unusedSimpArgs false
set_option maxRecDepth 100000
noncomputable section
open List (getD length drop take set append replicate all isEmpty)
open Int (toNat ofNat)
open Go.IntKind (i64 wrap)
open Go.Proofs.Tryz (prog f3 func3)
namespace Go.Ev
open Go.RowKit Go.Md
def o3(aF:Fabric)(aFrom:Int)(aX:TFrame):Bool×List Row×List Row:=(Fabric.big aF&&TFrame.big aX,[[.bool (true)]],[])
def c3:Contract
 |[[.sl false 2 aF_Net_Bridges,.sl false 4 aF_Net_Links,.sl false 3 aF_Cards],[.int .i64 aFrom],[.int .i64 aX_To,.int .i64 aX_From,.int .i64 aX_Vlan,.sl false 1 aX_Load]]=>some (isS Bridge false aF_Net_Bridges&&isS Link false aF_Net_Links&&isS Card false aF_Cards&&isS UInt8 false aX_Load&&(o3 ⟨⟨(deS Bridge aF_Net_Bridges),(deS Link aF_Net_Links)⟩,(deS Card aF_Cards)⟩ aFrom ⟨aX_To,aX_From,aX_Vlan,(deS UInt8 aX_Load)⟩).1,(o3 ⟨⟨(deS Bridge aF_Net_Bridges),(deS Link aF_Net_Links)⟩,(deS Card aF_Cards)⟩ aFrom ⟨aX_To,aX_From,aX_Vlan,(deS UInt8 aX_Load)⟩).2.1,(o3 ⟨⟨(deS Bridge aF_Net_Bridges),(deS Link aF_Net_Links)⟩,(deS Card aF_Cards)⟩ aFrom ⟨aX_To,aX_From,aX_Vlan,(deS UInt8 aX_Load)⟩).2.2)
 |_=>none
def v3_0(aF:Fabric):List (List D):=enS false (Net.Bridges (Fabric.Net aF))
def v3_1(aF:Fabric):List (List D):=enS false (Net.Links (Fabric.Net aF))
def v3_2(aF:Fabric):Bool:=isS Bridge false (v3_0 aF)&&isS Link false (v3_1 aF)&&isS Card false (enS false (Fabric.Cards aF))
def v3_3(aF:Fabric):List Bridge:=deS Bridge (v3_0 aF)
def v3_4(aF:Fabric):List Link:=deS Link (v3_1 aF)
def v3_5(aF:Fabric):List Card:=deS Card (enS false (Fabric.Cards aF))
def v3_6(aF:Fabric):Int:=szR (Fabric.wt (Fabric.mk (Net.mk (v3_3 aF) (v3_4 aF)) (v3_5 aF))) (1048576)
def v3_7(aX:TFrame):Bool:=isS UInt8 false (enS false (TFrame.Load aX))
def v3_8(aX:TFrame):List UInt8:=deS UInt8 (enS false (TFrame.Load aX))
def v3_9(aF:Fabric)(aX:TFrame):Int:=szR (TFrame.wt (TFrame.mk (TFrame.To aX) (TFrame.From aX) (TFrame.Vlan aX) (v3_8 aX))) (v3_6 aF)
def v3_10(aF:Fabric):Bool:=v3_2 aF&&Fabric.small (Fabric.mk (Net.mk (v3_3 aF) (v3_4 aF)) (v3_5 aF))
def v3_11(aX:TFrame):Bool:=v3_7 aX&&TFrame.small (TFrame.mk (TFrame.To aX) (TFrame.From aX) (TFrame.Vlan aX) (v3_8 aX))
def v3_12(aF:Fabric):List (List D):=enS true (v3_3 aF)
def v3_13(aF:Fabric):List (List D):=lendRows (v3_12 aF)
def v3_14(aF:Fabric):Bool:=isS Bridge false (v3_13 aF)
def v3_15(aF:Fabric):List (List D):=enS true (v3_4 aF)
def v3_16(aF:Fabric):List (List D):=lendRows (v3_15 aF)
def v3_17(aF:Fabric):Bool:=isS Link false (v3_16 aF)
def v3_18(aF:Fabric):List (List D):=enS true (v3_5 aF)
def v3_19(aF:Fabric):List (List D):=lendRows (v3_18 aF)
def v3_20(aF:Fabric):Bool:=isS Card false (v3_19 aF)
def v3_21(aF:Fabric):Bool:=v3_14 aF&&v3_17 aF&&v3_20 aF
def v3_22(aX:TFrame):List (List D):=enS true (v3_8 aX)
def v3_23(aX:TFrame):List (List D):=lendRows (v3_22 aX)
def v3_24(aX:TFrame):Bool:=isS UInt8 false (v3_23 aX)
def v3_25(aF:Fabric):Bool:=Fabric.small (Fabric.mk (Net.mk (deS Bridge (v3_13 aF)) (deS Link (v3_16 aF))) (deS Card (v3_19 aF)))
def v3_26(aX:TFrame):List UInt8:=deS UInt8 (v3_23 aX)
def v3_27(aF:Fabric)(aX:TFrame):Bool:=v3_21 aF&&v3_24 aX&&(v3_25 aF&&decide (length (v3_26 aX)≤1048576))
def v3_28(aF:Fabric)(aFrom:Int)(aX:TFrame):List (List D):=enS true (Net.Bridges (Fabric.Net (carryF (Fabric.mk (Net.mk (deS Bridge (v3_13 aF)) (deS Link (v3_16 aF))) (deS Card (v3_19 aF))) aFrom (TFrame.mk (TFrame.To aX) (TFrame.From aX) (TFrame.Vlan aX) (v3_26 aX)))))
def v3_29(aF:Fabric)(aFrom:Int)(aX:TFrame):List (List D):=enS true (Net.Links (Fabric.Net (carryF (Fabric.mk (Net.mk (deS Bridge (v3_13 aF)) (deS Link (v3_16 aF))) (deS Card (v3_19 aF))) aFrom (TFrame.mk (TFrame.To aX) (TFrame.From aX) (TFrame.Vlan aX) (v3_26 aX)))))
def v3_30(aF:Fabric)(aFrom:Int)(aX:TFrame):List (List D):=enS true (Fabric.Cards (carryF (Fabric.mk (Net.mk (deS Bridge (v3_13 aF)) (deS Link (v3_16 aF))) (deS Card (v3_19 aF))) aFrom (TFrame.mk (TFrame.To aX) (TFrame.From aX) (TFrame.Vlan aX) (v3_26 aX))))
def v3_31(aF:Fabric)(aFrom:Int)(aX:TFrame):List (List D):=enS true (carryG (Fabric.mk (Net.mk (deS Bridge (v3_13 aF)) (deS Link (v3_16 aF))) (deS Card (v3_19 aF))) aFrom (TFrame.mk (TFrame.To aX) (TFrame.From aX) (TFrame.Vlan aX) (v3_26 aX)))
def v3_32(aF:Fabric)(aFrom:Int)(aX:TFrame):Bool:=deepRows (v3_28 aF aFrom aX)&&(deepRows (v3_29 aF aFrom aX)&&(deepRows (v3_30 aF aFrom aX)&&true))&&(deepRows (v3_31 aF aFrom aX)&&true&&true)&&true&&true
def v3_33(aF:Fabric)(aFrom:Int)(aX:TFrame):List (List D):=lendRows (v3_28 aF aFrom aX)
def v3_34(aF:Fabric)(aFrom:Int)(aX:TFrame):Bool:=isS Bridge false (v3_33 aF aFrom aX)
def v3_35(aF:Fabric)(aFrom:Int)(aX:TFrame):List (List D):=lendRows (v3_29 aF aFrom aX)
def v3_36(aF:Fabric)(aFrom:Int)(aX:TFrame):Bool:=isS Link false (v3_35 aF aFrom aX)
def v3_37(aF:Fabric)(aFrom:Int)(aX:TFrame):List (List D):=lendRows (v3_30 aF aFrom aX)
def v3_38(aF:Fabric)(aFrom:Int)(aX:TFrame):Bool:=isS Card false (v3_37 aF aFrom aX)
def v3_39(aF:Fabric)(aFrom:Int)(aX:TFrame):Bool:=v3_34 aF aFrom aX&&v3_36 aF aFrom aX&&v3_38 aF aFrom aX&&v3_34 aF aFrom aX&&v3_36 aF aFrom aX&&v3_38 aF aFrom aX&&(sameB (Fabric.mk (Net.mk (deS Bridge (v3_33 aF aFrom aX)) (deS Link (v3_35 aF aFrom aX))) (deS Card (v3_37 aF aFrom aX))) (Fabric.mk (Net.mk (deS Bridge (v3_33 aF aFrom aX)) (deS Link (v3_35 aF aFrom aX))) (deS Card (v3_37 aF aFrom aX)))&&Fabric.small (Fabric.mk (Net.mk (deS Bridge (v3_33 aF aFrom aX)) (deS Link (v3_35 aF aFrom aX))) (deS Card (v3_37 aF aFrom aX))))
def v3_40(aF:Fabric)(aFrom:Int)(aX:TFrame):List (List D):=lendRows (v3_31 aF aFrom aX)
def v3_41(aF:Fabric)(aFrom:Int)(aX:TFrame):Bool:=isS Got false (v3_40 aF aFrom aX)
def v3_42(aF:Fabric)(aFrom:Int)(aX:TFrame):List Got:=deS Got (v3_40 aF aFrom aX)
def v3_43(aF:Fabric)(aFrom:Int)(aX:TFrame):Bool:=v3_41 aF aFrom aX&&v3_41 aF aFrom aX&&(sameB (v3_42 aF aFrom aX) (v3_42 aF aFrom aX)&&(decide (length (v3_42 aF aFrom aX)≤1048576)&&all (v3_42 aF aFrom aX) Got.small))
def v3_44(aF:Fabric):List Bridge:=deS Bridge (v3_12 aF)
def v3_45(aF:Fabric):List Link:=deS Link (v3_15 aF)
def v3_46(aF:Fabric):List Card:=deS Card (v3_18 aF)
def v3_47(aF:Fabric):Int:=1+Fabric.nTop (Fabric.mk (Net.mk (v3_44 aF) (v3_45 aF)) (v3_46 aF))
def v3_48(aX:TFrame):List UInt8:=deS UInt8 (v3_22 aX)
def v3_49(aF:Fabric)(aX:TFrame):Int:=v3_47 aF+TFrame.nTop (TFrame.mk (TFrame.To aX) (TFrame.From aX) (TFrame.Vlan aX) (v3_48 aX))
def v3_50(aF:Fabric)(aFrom:Int)(aX:TFrame):List Bridge:=deS Bridge (v3_28 aF aFrom aX)
def v3_51(aF:Fabric)(aFrom:Int)(aX:TFrame):List Link:=deS Link (v3_29 aF aFrom aX)
def v3_52(aF:Fabric)(aFrom:Int)(aX:TFrame):List Card:=deS Card (v3_30 aF aFrom aX)
def v3_53(aF:Fabric)(aFrom:Int)(aX:TFrame):Int:=1+Fabric.nTop (Fabric.mk (Net.mk (v3_50 aF aFrom aX) (v3_51 aF aFrom aX)) (v3_52 aF aFrom aX))
def v3_54(aF:Fabric)(aFrom:Int)(aX:TFrame):List Got:=deS Got (v3_31 aF aFrom aX)
def v3_55(aF:Fabric)(aFrom:Int)(aX:TFrame):Int:=v3_53 aF aFrom aX+cntS Got.n_ (v3_54 aF aFrom aX)
def v3_56(aF:Fabric)(aFrom:Int)(aX:TFrame):List (List D):=lendRows (enS true (Net.Bridges (Fabric.Net (Fabric.mkTop (Fabric.mk (Net.mk (v3_50 aF aFrom aX) (v3_51 aF aFrom aX)) (v3_52 aF aFrom aX)) (1)))))
def v3_57(aF:Fabric)(aFrom:Int)(aX:TFrame):List (List D):=lendRows (enS true (Net.Links (Fabric.Net (Fabric.mkTop (Fabric.mk (Net.mk (v3_50 aF aFrom aX) (v3_51 aF aFrom aX)) (v3_52 aF aFrom aX)) (1)))))
def v3_58(aF:Fabric)(aFrom:Int)(aX:TFrame):List (List D):=lendRows (enS true (Fabric.Cards (Fabric.mkTop (Fabric.mk (Net.mk (v3_50 aF aFrom aX) (v3_51 aF aFrom aX)) (v3_52 aF aFrom aX)) (1))))
def v3_59(aF:Fabric)(aFrom:Int)(aX:TFrame):List Bridge:=deS Bridge (v3_56 aF aFrom aX)
def v3_60(aF:Fabric)(aFrom:Int)(aX:TFrame):List Link:=deS Link (v3_57 aF aFrom aX)
def v3_61(aF:Fabric)(aFrom:Int)(aX:TFrame):List Card:=deS Card (v3_58 aF aFrom aX)
def v3_62(aF:Fabric)(aFrom:Int)(aX:TFrame):Int:=1+Fabric.nTop (Fabric.mk (Net.mk (v3_59 aF aFrom aX) (v3_60 aF aFrom aX)) (v3_61 aF aFrom aX))
def v3_63(aF:Fabric)(aFrom:Int)(aX:TFrame):Bool:=isS Bridge false (v3_56 aF aFrom aX)&&isS Link false (v3_57 aF aFrom aX)&&isS Card false (v3_58 aF aFrom aX)&&(sameB (Fabric.mkTop (Fabric.mk (Net.mk (v3_59 aF aFrom aX) (v3_60 aF aFrom aX)) (v3_61 aF aFrom aX)) (1)) (Fabric.mk (Net.mk (v3_59 aF aFrom aX) (v3_60 aF aFrom aX)) (v3_61 aF aFrom aX))&&(decide (v3_62 aF aFrom aX≤4611686018427387904)&&((decide (length (v3_59 aF aFrom aX)≤1152921504606846976)&&all (v3_59 aF aFrom aX) λx↦decide (length (Bridge.Ports x)≤1152921504606846976))&&decide (length (v3_60 aF aFrom aX)≤1152921504606846976)&&(decide (length (v3_61 aF aFrom aX)≤1152921504606846976)&&all (v3_61 aF aFrom aX) λx↦decide (length (Card.Open x)≤1152921504606846976)&&(decide (length (Card.Members x)≤1152921504606846976)&&all (Card.Members x) λx_1↦decide (length (Member.In x_1)≤1152921504606846976))&&decide (length (Card.Table x)≤1152921504606846976)))))
def v3_64(aF:Fabric)(aFrom:Int)(aX:TFrame):Bool:=decide (v3_62 aF aFrom aX<0)
def v3_65(aF:Fabric)(aFrom:Int)(aX:TFrame):List (List D):=lendRows (enS true (markS Got.mk_ Got.n_ (v3_54 aF aFrom aX) (v3_53 aF aFrom aX)))
def v3_66(aF:Fabric)(aFrom:Int)(aX:TFrame):List Got:=deS Got (v3_65 aF aFrom aX)
def v3_67(aF:Fabric)(aFrom:Int)(aX:TFrame):Int:=v3_62 aF aFrom aX+cntS Got.n_ (v3_66 aF aFrom aX)
def v3_68(aF:Fabric)(aFrom:Int)(aX:TFrame):Bool:=isS Got false (v3_65 aF aFrom aX)&&(sameB (markS Got.mk_ Got.n_ (v3_66 aF aFrom aX) (v3_62 aF aFrom aX)) (v3_66 aF aFrom aX)&&(decide (0≤v3_62 aF aFrom aX)&&(decide (v3_67 aF aFrom aX≤4611686018427387904)&&(decide (length (v3_66 aF aFrom aX)≤1152921504606846976)&&all (v3_66 aF aFrom aX) λx↦decide (length (TFrame.Load (Got.Frame x))≤1152921504606846976)))))
def v3_69(aF:Fabric)(aFrom:Int)(aX:TFrame):Bool:=decide (v3_67 aF aFrom aX<0)
def v3_70(aF:Fabric)(aFrom:Int)(aX:TFrame):Bool:=v3_67 aF aFrom aX !=v3_55 aF aFrom aX
def y3_0(aX:TFrame):=TFrame.mk (TFrame.To aX) (TFrame.From aX) (TFrame.Vlan aX) (v3_26 aX)
theorem r3(aF:Fabric)(aFrom:Int)(aX:TFrame)(n:Nat):evFn ⟨prog,Hx,3⟩ T6.call n f3 [[.sl false 2 (enS false aF.Net.Bridges),.sl false 4 (enS false aF.Net.Links),.sl false 3 (enS false aF.Cards)],[.int .i64 aFrom],[.int .i64 aX.To,.int .i64 aX.From,.int .i64 aX.Vlan,.sl false 1 (enS false aX.Load)]]=bif v3_2 aF&&Fabric.big (Fabric.mk (Net.mk (v3_3 aF) (v3_4 aF)) (v3_5 aF))then bif decide (v3_6 aF<0)then some ([[D.bool true]],[])else bif v3_7 aX&&(decide (0≤v3_6 aF)&&(decide (v3_6 aF≤1048576)&&TFrame.big (TFrame.mk (TFrame.To aX) (TFrame.From aX) (TFrame.Vlan aX) (v3_8 aX))))then bif decide (v3_9 aF aX<0)then some ([[D.bool true]],[])else bif v3_10 aF then bif v3_11 aX then bif v3_27 aF aX then bif v3_32 aF aFrom aX then bif v3_10 aF then bif v3_11 aX then bif v3_27 aF aX then bif v3_32 aF aFrom aX then bif v3_39 aF aFrom aX then bif v3_43 aF aFrom aX then bif v3_10 aF then bif v3_21 aF&&v3_14 aF&&v3_17 aF&&v3_20 aF&&(sameB (Fabric.mk (Net.mk (deS Bridge (v3_13 aF)) (deS Link (v3_16 aF))) (deS Card (v3_19 aF))) (Fabric.mk (Net.mk (deS Bridge (v3_13 aF)) (deS Link (v3_16 aF))) (deS Card (v3_19 aF)))&&v3_25 aF)then bif v3_11 aX then bif v3_24 aX&&v3_24 aX&&(sameB (y3_0 aX) (y3_0 aX)&&TFrame.small (y3_0 aX))then bif isS Bridge true (v3_12 aF)&&isS Link true (v3_15 aF)&&isS Card true (v3_18 aF)&&(decide (v3_47 aF≤4611686018427387904)&&((decide (length (v3_44 aF)≤1152921504606846976)&&all (v3_44 aF) λx↦decide (length (Bridge.Ports x)≤1152921504606846976))&&decide (length (v3_45 aF)≤1152921504606846976)&&(decide (length (v3_46 aF)≤1152921504606846976)&&all (v3_46 aF) λx↦decide (length (Card.Open x)≤1152921504606846976)&&(decide (length (Card.Members x)≤1152921504606846976)&&all (Card.Members x) λx_1↦decide (length (Member.In x_1)≤1152921504606846976))&&decide (length (Card.Table x)≤1152921504606846976))))then bif isS UInt8 true (v3_22 aX)&&(decide (0≤v3_47 aF)&&(decide (v3_49 aF aX≤4611686018427387904)&&decide (length (v3_48 aX)≤1152921504606846976)))then bif decide (v3_49 aF aX<0)then some ([[D.bool false]],[])else bif v3_39 aF aFrom aX then bif v3_43 aF aFrom aX then bif isS Bridge true (v3_28 aF aFrom aX)&&isS Link true (v3_29 aF aFrom aX)&&isS Card true (v3_30 aF aFrom aX)&&(decide (v3_53 aF aFrom aX≤4611686018427387904)&&((decide (length (v3_50 aF aFrom aX)≤1152921504606846976)&&all (v3_50 aF aFrom aX) λx↦decide (length (Bridge.Ports x)≤1152921504606846976))&&decide (length (v3_51 aF aFrom aX)≤1152921504606846976)&&(decide (length (v3_52 aF aFrom aX)≤1152921504606846976)&&all (v3_52 aF aFrom aX) λx↦decide (length (Card.Open x)≤1152921504606846976)&&(decide (length (Card.Members x)≤1152921504606846976)&&all (Card.Members x) λx_1↦decide (length (Member.In x_1)≤1152921504606846976))&&decide (length (Card.Table x)≤1152921504606846976))))then bif isS Got true (v3_31 aF aFrom aX)&&(decide (0≤v3_53 aF aFrom aX)&&(decide (v3_55 aF aFrom aX≤4611686018427387904)&&(decide (length (v3_54 aF aFrom aX)≤1152921504606846976)&&all (v3_54 aF aFrom aX) λx↦decide (length (TFrame.Load (Got.Frame x))≤1152921504606846976))))then bif v3_63 aF aFrom aX then bif v3_64 aF aFrom aX then some ([[D.bool false]],[])else bif v3_68 aF aFrom aX then bif v3_69 aF aFrom aX then some ([[D.bool false]],[])else bif v3_70 aF aFrom aX then some ([[D.bool false]],[])else bif v3_10 aF then bif v3_11 aX then bif v3_27 aF aX then bif v3_32 aF aFrom aX then bif v3_39 aF aFrom aX then bif v3_43 aF aFrom aX then bif v3_63 aF aFrom aX then bif v3_64 aF aFrom aX then some ([[D.bool false]],[])else bif v3_68 aF aFrom aX then bif v3_69 aF aFrom aX then some ([[D.bool false]],[])else bif v3_70 aF aFrom aX then some ([[D.bool false]],[])else some ([[D.bool true]],[])else none else none else none else none else none else none else none else none else none else none else none else none else none else none else none else none else none else none else none else none else none else none else none else none else none else none else none else none else none else none else none else none:=by kernel_rfl
theorem m3(aF:Fabric)(aFrom:Int)(aX:TFrame)(hpre:(o3 aF aFrom aX).1=true):evFn ⟨Go.Proofs.Tryz.prog,Hx,3⟩ T6.call 0 f3 [[.sl false 2 (enS false aF.Net.Bridges),.sl false 4 (enS false aF.Net.Links),.sl false 3 (enS false aF.Cards)],[.int .i64 aFrom],[.int .i64 aX.To,.int .i64 aX.From,.int .i64 aX.Vlan,.sl false 1 (enS false aX.Load)]]=some (o3 aF aFrom aX).2:=by
 refine(r3 aF aFrom aX _).trans ?_;delta y3_0;show _=(some ([[.bool (true)]],[]):Option (List Row×List Row));replace hpre:(Fabric.big aF&&TFrame.big aX)=true:=hpre;simp only[Bool.and_eq_true]at hpre;rcases Zbe (Fabric.wt aF) (1048576) (by omega)with⟨hw0,he0,hz0⟩|⟨_,_,hz0⟩
 case inr=>simp only[v3_0,v3_1,v3_2,v3_3,v3_4,v3_5,v3_6,v3_7,v3_8,v3_9,v3_10,v3_11,v3_12,v3_13,v3_14,v3_15,v3_16,v3_17,v3_18,v3_19,v3_20,v3_21,v3_22,v3_23,v3_24,v3_25,v3_26,v3_27,v3_28,v3_29,v3_30,v3_31,v3_32,v3_33,v3_34,v3_35,v3_36,v3_37,v3_38,v3_39,v3_40,v3_41,v3_42,v3_43,v3_44,v3_45,v3_46,v3_47,v3_48,v3_49,v3_50,v3_51,v3_52,v3_53,v3_54,v3_55,v3_56,v3_57,v3_58,v3_59,v3_60,v3_61,v3_62,v3_63,v3_64,v3_65,v3_66,v3_67,v3_68,v3_69,v3_70,hpre,hz0,Zak,Zad,Bool.and_self,Bool.and_true,Bool.true_and,cond_true,cond_false,TReader.eta,TFrame.eta,Heard.eta,Member.eta,Card.eta,Out1.eta,Vec.eta,Port.eta,Bridge.eta,In.eta,Out.eta,Link.eta,Net.eta,TEnd.eta,Minder.eta,Reg.eta,Wire.eta,Box.eta,Deed.eta,Bpdu.eta,Visit.eta,Fabric.eta,Got.eta,TRide.eta,Up.eta,Copy.eta,Bucket.eta,Snap.eta,TL9Cur.eta,TL21In.eta]
 have q0:decide (0≤1048576-Fabric.wt aF)=true:=decide_eq_true (by omega)
 have r0:decide (1048576-Fabric.wt aF≤1048576)=true:=decide_eq_true (by have:=Fabric.wt_pos aF;omega)
 have s0:decide (1048576-Fabric.wt aF<0)=false:=decide_eq_false (by omega)
 have pw:=Fabric.wt_pos aF;have p1:0≤TFrame.wt aX:=by exact TFrame.wt_pos aX
 rcases Zbe (TFrame.wt aX) (1048576-Fabric.wt aF) (by omega)with⟨hw1,he1,hz1⟩|⟨_,_,hz1⟩
 case inr=>simp only[v3_0,v3_1,v3_2,v3_3,v3_4,v3_5,v3_6,v3_7,v3_8,v3_9,v3_10,v3_11,v3_12,v3_13,v3_14,v3_15,v3_16,v3_17,v3_18,v3_19,v3_20,v3_21,v3_22,v3_23,v3_24,v3_25,v3_26,v3_27,v3_28,v3_29,v3_30,v3_31,v3_32,v3_33,v3_34,v3_35,v3_36,v3_37,v3_38,v3_39,v3_40,v3_41,v3_42,v3_43,v3_44,v3_45,v3_46,v3_47,v3_48,v3_49,v3_50,v3_51,v3_52,v3_53,v3_54,v3_55,v3_56,v3_57,v3_58,v3_59,v3_60,v3_61,v3_62,v3_63,v3_64,v3_65,v3_66,v3_67,v3_68,v3_69,v3_70,hpre,hz0,he0,q0,r0,s0,hz1,Zak,Zad,Bool.and_self,Bool.and_true,Bool.true_and,cond_true,cond_false,TReader.eta,TFrame.eta,Heard.eta,Member.eta,Card.eta,Out1.eta,Vec.eta,Port.eta,Bridge.eta,In.eta,Out.eta,Link.eta,Net.eta,TEnd.eta,Minder.eta,Reg.eta,Wire.eta,Box.eta,Deed.eta,Bpdu.eta,Visit.eta,Fabric.eta,Got.eta,TRide.eta,Up.eta,Copy.eta,Bucket.eta,Snap.eta,TL9Cur.eta,TL21In.eta]
 have hsm0:=Fabric.small_of aF (by omega)
 have hsm1:=TFrame.small_of aX (by omega)
 have hld:decide (aX.Load.length≤1048576)=true:=by have:=hsm1;unfold TFrame.small at this;exact this
 have n0:0≤Fabric.nTop aF:=Fabric.nTop_pos aF;have m0:Fabric.nTop aF≤100000000:=by have:=Fabric.nTop_le aF;omega
 have x0:=Fabric.top_ok aF (1) (by omega) (by omega) (by omega)
 simp only[Bool.and_eq_true]at x0;have y0:decide (1+Fabric.nTop aF<0)=false:=decide_eq_false (by omega)
 have n1:0≤TFrame.nTop aX:=TFrame.nTop_pos aX;have m1:TFrame.nTop aX≤100000000:=by have:=TFrame.nTop_le aX;omega
 have x1:=TFrame.top_ok aX (1+Fabric.nTop aF) (by omega) (by omega) (by omega)
 simp only[Bool.and_eq_true]at x1;have y1:decide (1+Fabric.nTop aF+TFrame.nTop aX<0)=false:=decide_eq_false (by omega)
 have hl0:Fabric.wt (carryF aF aFrom aX)≤1048576:=Zs6 aF aFrom aX (by omega)
 generalize hg0:carryF aF aFrom aX=g0 at hl0⊢;have nn0:0≤Fabric.nTop g0:=Fabric.nTop_pos g0;have mm0:Fabric.nTop g0≤100000000:=by have:=Fabric.nTop_le g0;omega
 have ia0:=Fabric.mkTop_idem g0 (1);have ib0:=Fabric.nTop_mk g0 (1);have ka0:=Fabric.top_ok g0 (1) (by omega) (by omega) hl0
 have kb0:=Fabric.top_ok (Fabric.mkTop g0 (1)) (1) (by omega) (by omega) (by rw[Fabric.wt_mk];exact hl0)
 simp only[ib0,Za1,Bool.and_eq_true]at ka0 kb0;have kc0:=Fabric.small_of g0 hl0;try simp only[Bool.and_eq_true]at kc0
 have kd0:decide (1+Fabric.nTop g0<0)=false:=decide_eq_false (by omega)
 have hl1:(((carryG aF aFrom aX).length:Int)+cntS Got.wt (carryG aF aFrom aX))≤1048576:=Zs7 aF aFrom aX;generalize hg1:carryG aF aFrom aX=g1 at hl1⊢;have nn1:0≤cntS Got.n_ g1:=Zag Got.n_pos g1;have mm1:cntS Got.n_ g1≤100000000:=by have c0:=Zfh Got.n_le g1;have d0:=Zag (n:=Got.wt) Got.wt_pos g1;omega
 obtain⟨ia1,ib1⟩:=Zam (mk:=Got.mk_) (n:=Got.n_) Got.mk_idem Got.n_mk g1 (1+Fabric.nTop g0);have ka1:=Got.lok g1 (1+Fabric.nTop g0) (by omega) (by omega) hl1
 have kb1:=Got.lok (markS Got.mk_ Got.n_ g1 (1+Fabric.nTop g0)) (1+Fabric.nTop g0) (by omega) (by omega) (by rw[Za1,Zeg (w:=Got.wt) Got.wt_mk_];exact hl1)
 simp only[ib1,Za1,Bool.and_eq_true]at ka1 kb1;have kc1:=Got.lsm g1 hl1;try simp only[Bool.and_eq_true]at kc1
 have kd1:decide (1+Fabric.nTop g0+cntS Got.n_ g1<0)=false:=decide_eq_false (by omega)
 simp only[v3_0,v3_1,v3_2,v3_3,v3_4,v3_5,v3_6,v3_7,v3_8,v3_9,v3_10,v3_11,v3_12,v3_13,v3_14,v3_15,v3_16,v3_17,v3_18,v3_19,v3_20,v3_21,v3_22,v3_23,v3_24,v3_25,v3_26,v3_27,v3_28,v3_29,v3_30,v3_31,v3_32,v3_33,v3_34,v3_35,v3_36,v3_37,v3_38,v3_39,v3_40,v3_41,v3_42,v3_43,v3_44,v3_45,v3_46,v3_47,v3_48,v3_49,v3_50,v3_51,v3_52,v3_53,v3_54,v3_55,v3_56,v3_57,v3_58,v3_59,v3_60,v3_61,v3_62,v3_63,v3_64,v3_65,v3_66,v3_67,v3_68,v3_69,v3_70,hpre,hld,hz0,he0,q0,r0,s0,hz1,hsm0,hsm1,x0,y0,x1,y1,hg0,ia0,ib0,ka0,kb0,kc0,kd0,hg1,ia1,ib1,ka1,kb1,kc1,kd1,Zak,Zad,Zaf,Zal,Zas,Zaa,Za1,Bool.and_self,Bool.and_true,Bool.true_and,cond_true,cond_false,Bool.not_true,Bool.not_false,bne_self_eq_false,Zty,TReader.eta,TFrame.eta,Heard.eta,Member.eta,Card.eta,Out1.eta,Vec.eta,Port.eta,Bridge.eta,In.eta,Out.eta,Link.eta,Net.eta,TEnd.eta,Minder.eta,Reg.eta,Wire.eta,Box.eta,Deed.eta,Bpdu.eta,Visit.eta,Fabric.eta,Got.eta,TRide.eta,Up.eta,Copy.eta,Bucket.eta,Snap.eta,TL9Cur.eta,TL21In.eta]
theorem s3:SoundAt Go.Proofs.Tryz.prog Hx 3 c3:=Zj0 Zmy mixed func3 (by kernel_rfl) (by
 intro rows r h;unfold c3 at h;split at h
 ·rename_i aF_Net_Bridges aF_Net_Links aF_Cards aFrom aX_To aX_From aX_Vlan aX_Load;obtain⟨hp,hr⟩:=Prod.mk.inj (Option.some.inj h);subst hr;simp only[Bool.and_eq_true]at hp;obtain⟨⟨⟨⟨hs0,hs1⟩,hs2⟩,hs3⟩,hp⟩:=hp;obtain⟨xs0,rfl⟩:=Zay hs0;obtain⟨xs1,rfl⟩:=Zay hs1;obtain⟨xs2,rfl⟩:=Zay hs2;obtain⟨xs3,rfl⟩:=Zay hs3;simp only[Zad]at hp⊢;exact⟨_,m3 ⟨⟨xs0,xs1⟩,xs2⟩ aFrom ⟨aX_To,aX_From,aX_Vlan,xs3⟩ hp⟩
 ·cases h)
def T3:Table:=(3,c3)::T6
theorem Z2l:Table.Sound Go.Proofs.Tryz.prog Hx T3:=Table.sound_cons s3 Zmy
end Go.Ev
end
