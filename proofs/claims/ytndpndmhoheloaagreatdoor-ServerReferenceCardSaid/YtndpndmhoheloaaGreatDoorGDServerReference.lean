/- Part 5 of a proof of the law ServerReference: Go data as trees, the walks of the functions that the law reaches, the plain laws. -/
import Derived.Test.YtndpndmhoheloaaGreatDoorGCServerReference
import Derived.Test.YtndpndmhoheloaaGreatDoorProg
import Derived.KernelRfl
import Derived.RangeFuncGives
import Derived.RangeFuncKeeps
import Derived.Sort.MapsRangeIn
import Derived.WalkKit
import Derived.OwnWalkIn
import Derived.TacticsInMore
import Derived.RegionIn
import Derived.LoopNIn
import Derived.LoopIn
import Derived.RangeFuncNested
import Derived.Maps.AppendAt
import Derived.RangeFuncWrites
import Derived.Shelf.Small.Wraps
import Derived.Shelf.SlSortCmp.WholeK
import Derived.Shelf.SlSortCmp.NoneTotal
import Derived.Ground.SlsfProg
import Derived.BigQuiet
import Derived.BigCall
import Derived.Lib.Hide
import Derived.StillTailTactics
import Derived.Sort.Grow
open List renaming all_eq_true->aNz,append_assoc->aOe,append_nil->aN9,cons_append->aMl,drop_eq_getElem_cons->aOi,getElem?_append_left->aM0,getElem?_append_right->aM1,getElem?_eq_getElem->aNi,getElem?_eq_none->aM2,getElem?_set_ne->aM5,getElem?_set_self->aM4,getElem_cons_zero->aMn,length_append->aNo,length_cons->aM7,length_map->aMw,length_nil->aOa,map_append->aN3,map_cons->aNl,map_nil->aOb,mem_cons->aN2,mem_cons_of_mem->aOg,mem_map->aNy,mem_singleton->aN8,nil_append->aN7,not_mem_nil->aOc,replicate_zero->aOd,take_length->aOj
open Nat renaming le_refl->aMq,le_trans->aMr,lt_of_lt_of_le->aMs,lt_or_ge->aMo,sub_self->aNt,succ_ne_self->aOf,zero_add->aNn,zero_le->aNs
open Go.Sem renaming run_bind->aM9,run_pure->aNc
open Bool renaming and_eq_true->aMj,eq_iff_iff->aN1,false_eq_true->aNh,not_false->aNx
open Option renaming isSome_some->aNv,map_some->aM6
open Go.Result renaming andThen_ok->aNa
open Array renaming getElem?_eq_getElem->aMy,getElem?_eq_some_iff->aOk,getElem?_toList->aNk
set_option linter.unusedSectionVars false
set_option linter.unnecessarySimpa false
set_option linter.unusedVariables false
set_option linter.unusedSimpArgs false
namespace Go.Abs
open Go.Proofs
theorem kR{p:Prop}(h:p:=by kernel_rfl):p:=h
theorem aJr:bZ Tryz.prog 3=some ⟨false,1,8⟩:=kR
theorem zX:cA Tryz.prog 3=some (.int .i64 0):=kR
theorem nH:AG Tryz.prog 3=some .i64:=kR
theorem LA:cJ Tryz.prog 22=some (34,⟨true,11,128⟩):=kR
theorem CT:cA Tryz.prog 32=some (.agg [.int .i64 0, .int .i64 0, .int .i64 0, .int .i64 0, .str []]):=kR
theorem XK:cA Tryz.prog 34=some (.agg [.int .i64 0, .int .i64 0, .int .i64 0, .str [], .str [], .slice [] .full, .int .i64 0, .int .i64 0, .int .i64 0, .int .i64 0, .str []]):=kR
theorem wJ:cJ Tryz.prog 35=some (60,⟨true,6,72⟩):=kR
theorem XD:bZ Tryz.prog 36=some ⟨false,1,8⟩:=kR
theorem dZ:cJ Tryz.prog 39=some (50,⟨true,2,32⟩):=kR
theorem eD:cJ Tryz.prog 40=some (3,⟨false,1,8⟩):=kR
theorem kD:cJ Tryz.prog 41=some (32,⟨true,5,48⟩):=kR
theorem aD9:bZ Tryz.prog 50=some ⟨true,2,32⟩:=kR
theorem rJ:cA Tryz.prog 50=some (.agg [.str [], .str []]):=kR
theorem CB:bZ Tryz.prog 60=some ⟨true,6,72⟩:=kR
theorem KU:cA Tryz.prog 60=some (.agg [.int .i64 0, .int .i64 0, .int .i64 0, .int .i64 0, .slice [] .full, .str []]):=kR
theorem pT:bZ Tryz.prog 67=some ⟨true,2,40⟩:=kR
theorem fL:AG Tryz.prog 134=some .u64:=kR
theorem KE:rC Tryz.prog 87=some 145:=kR
theorem aDw:rC Tryz.prog 88=some 3:=kR
theorem aLg:bO Tryz.prog 4=true:=kR
theorem aJu:bO Tryz.prog 5=true:=kR
theorem aFu:bO Tryz.prog 6=true:=kR
theorem aKv:bO Tryz.prog 7=true:=kR
theorem aK9:bO Tryz.prog 8=true:=kR
theorem aJv:bO Tryz.prog 9=true:=kR
theorem aJl:bO Tryz.prog 10=true:=kR
theorem aJk:bO Tryz.prog 11=true:=kR
theorem aDk:bO Tryz.prog 12=true:=kR
theorem aJ6:bO Tryz.prog 13=true:=kR
theorem aI2:bO Tryz.prog 14=true:=kR
theorem aJj:bO Tryz.prog 15=true:=kR
theorem aDs:bO Tryz.prog 16=true:=kR
theorem aDx:bO Tryz.prog 17=true:=kR
theorem KJ:bO Tryz.prog 18=true:=kR
theorem aJf:bO Tryz.prog 19=true:=kR
theorem aHu:bO Tryz.prog 21=true:=kR
theorem aJx:bO Tryz.prog 22=true:=kR
theorem aIz:bO Tryz.prog 23=true:=kR
theorem aD3:bO Tryz.prog 24=true:=kR
theorem aEo:bO Tryz.prog 25=true:=kR
theorem aDl:bO Tryz.prog 26=true:=kR
theorem aH6:bO Tryz.prog 27=true:=kR
theorem aIo:bO Tryz.prog 28=true:=kR
theorem aIf:bO Tryz.prog 29=true:=kR
theorem aHm:bO Tryz.prog 30=true:=kR
theorem aJd:bO Tryz.prog 31=true:=kR
theorem aJp:bO Tryz.prog 32=true:=kR
theorem aI4:bO Tryz.prog 33=true:=kR
theorem aEb:bO Tryz.prog 34=true:=kR
theorem aEp:bO Tryz.prog 35=true:=kR
theorem aHo:bO Tryz.prog 36=true:=kR
theorem YU:bO Tryz.prog 37=true:=kR
theorem aHl:bO Tryz.prog 38=true:=kR
theorem MG:bO Tryz.prog 39=true:=kR
theorem aH9:bO Tryz.prog 41=true:=kR
theorem aIx:bO Tryz.prog 42=true:=kR
theorem aI1:bO Tryz.prog 43=true:=kR
theorem aD0:bO Tryz.prog 44=true:=kR
theorem aH5:bO Tryz.prog 45=true:=kR
theorem aJb:bO Tryz.prog 46=true:=kR
theorem aIb:bO Tryz.prog 47=true:=kR
theorem aEk:bO Tryz.prog 48=true:=kR
theorem aJm:bO Tryz.prog 49=true:=kR
theorem aD1:bO Tryz.prog 50=true:=kR
theorem aJi:bO Tryz.prog 51=true:=kR
theorem SF:bO Tryz.prog 52=true:=kR
theorem RP:bO Tryz.prog 53=true:=kR
theorem aIk:bO Tryz.prog 54=true:=kR
theorem aDn:bO Tryz.prog 55=true:=kR
theorem aJ4:bO Tryz.prog 56=true:=kR
theorem aEs:bO Tryz.prog 57=true:=kR
theorem aEe:bO Tryz.prog 58=true:=kR
theorem aHq:bO Tryz.prog 59=true:=kR
theorem aKe:bO Tryz.prog 60=true:=kR
theorem aEr:bO Tryz.prog 61=true:=kR
theorem aI5:bO Tryz.prog 62=true:=kR
theorem aEi:bO Tryz.prog 63=true:=kR
theorem aJ3:bO Tryz.prog 64=true:=kR
theorem aIi:bO Tryz.prog 65=true:=kR
theorem aJ8:bO Tryz.prog 66=true:=kR
theorem aIm:bO Tryz.prog 67=true:=kR
theorem aEj:bO Tryz.prog 68=true:=kR
theorem aId:bO Tryz.prog 69=true:=kR
theorem aI6:bO Tryz.prog 70=true:=kR
theorem aDr:bO Tryz.prog 71=true:=kR
theorem aHp:bO Tryz.prog 72=true:=kR
theorem aJs:bO Tryz.prog 73=true:=kR
theorem aH3:bO Tryz.prog 75=true:=kR
theorem aJz:bO Tryz.prog 81=true:=kR
theorem aJt:bO Tryz.prog 82=true:=kR
theorem aJa:bO Tryz.prog 83=true:=kR
theorem aEn:bO Tryz.prog 87=true:=kR
theorem GW:bO Tryz.prog 88=true:=kR
theorem aHy:bO Tryz.prog 89=true:=kR
theorem aH0:bO Tryz.prog 90=true:=kR
theorem aDq:bO Tryz.prog 91=true:=kR
theorem aHn:bO Tryz.prog 92=true:=kR
theorem WG:bO Tryz.prog 93=true:=kR
theorem aEm:bO Tryz.prog 94=true:=kR
theorem aIl:bO Tryz.prog 95=true:=kR
theorem aJ0:bO Tryz.prog 96=true:=kR
theorem aJc:bO Tryz.prog 97=true:=kR
theorem ZQ:bO Tryz.prog 98=true:=kR
theorem QO:bO Tryz.prog 100=true:=kR
theorem YV:bO Tryz.prog 104=true:=kR
theorem YR:bO Tryz.prog 105=true:=kR
theorem GY:bO Tryz.prog 106=true:=kR
theorem QJ:bO Tryz.prog 107=true:=kR
theorem aE6:bO Tryz.prog 112=true:=kR
theorem ZO:bO Tryz.prog 113=true:=kR
theorem aG4:bO Tryz.prog 114=true:=kR
theorem aG5:bO Tryz.prog 116=true:=kR
theorem YS:bO Tryz.prog 119=true:=kR
theorem aFz:bO Tryz.prog 120=true:=kR
theorem aAi:bO Tryz.prog 121=true:=kR
theorem PN:bO Tryz.prog 122=true:=kR
theorem ZT:bO Tryz.prog 129=true:=kR
theorem aE3:bO Tryz.prog 130=true:=kR
theorem aGz:bO Tryz.prog 131=true:=kR
theorem aFk:bO Tryz.prog 132=true:=kR
theorem aF4:bO Tryz.prog 133=true:=kR
theorem aGa:bO Tryz.prog 134=true:=kR
theorem aE5:bO Tryz.prog 135=true:=kR
theorem aFe:bO Tryz.prog 147=true:=kR
theorem aGg:bO Tryz.prog 148=true:=kR
theorem aFs:bO Tryz.prog 149=true:=kR
theorem y1:bZ Tryz.prog 1=some ⟨false,1,8⟩/\cA Tryz.prog 1=some .nilfn:=⟨kR,kR⟩
theorem y2:bZ Tryz.prog 2=some ⟨false,1,8⟩/\cA Tryz.prog 2=some (.int .i64 0)/\iW Tryz.prog 2=false/\AG Tryz.prog 2=some .i64:=⟨kR,kR,kR,kR⟩
theorem y3:bZ Tryz.prog 3=some ⟨false,1,8⟩/\cA Tryz.prog 3=some (.int .i64 0)/\iW Tryz.prog 3=false/\AG Tryz.prog 3=some .i64:=⟨aJr,zX,kR,nH⟩
theorem y4:bZ Tryz.prog 4=some ⟨false,1,1⟩/\cA Tryz.prog 4=some (.bool false)/\iW Tryz.prog 4=false/\aAc Tryz.prog 4=true:=⟨kR,kR,kR,kR⟩
theorem y5:bZ Tryz.prog 5=some ⟨false,1,1⟩/\cA Tryz.prog 5=some (.int .u8 0)/\iW Tryz.prog 5=false/\AG Tryz.prog 5=some .u8:=⟨kR,kR,kR,kR⟩
theorem y9:bZ Tryz.prog 9=some ⟨false,1,16⟩/\cA Tryz.prog 9=some (.str [])/\iW Tryz.prog 9=false/\LW Tryz.prog 9=true:=⟨kR,kR,kR,kR⟩
theorem y22:bZ Tryz.prog 22=some ⟨false,1,24⟩/\cJ Tryz.prog 22=some (34,⟨true,11,128⟩)/\cA Tryz.prog 22=some (.slice [] .full)/\iW Tryz.prog 22=false:=⟨kR,LA,kR,kR⟩
theorem y23:bZ Tryz.prog 23=some ⟨false,1,8⟩/\cA Tryz.prog 23=some .nilfn:=⟨kR,kR⟩
theorem y24:bZ Tryz.prog 24=some ⟨false,1,8⟩/\cA Tryz.prog 24=some (.nilp)/\iW Tryz.prog 24=true:=⟨kR,kR,kR⟩
theorem y26:bZ Tryz.prog 26=some ⟨false,1,8⟩/\cA Tryz.prog 26=some .nilfn:=⟨kR,kR⟩
theorem NO:bZ Tryz.prog 30=some ⟨false,1,24⟩/\cJ Tryz.prog 30=some (102,⟨true,3,32⟩)/\cA Tryz.prog 30=some (.slice [] .full)/\iW Tryz.prog 30=false:=⟨kR,kR,kR,kR⟩
theorem jH:bZ Tryz.prog 32=some ⟨true,5,48⟩/\kO Tryz.prog 32=some [(0,⟨false,1,8⟩),(1,⟨false,1,8⟩),(2,⟨false,1,8⟩),(3,⟨false,1,8⟩),(4,⟨false,1,16⟩)]/\cA Tryz.prog 32=some (.agg [.int .i64 0, .int .i64 0, .int .i64 0, .int .i64 0, .str []])/\iW Tryz.prog 32=false:=⟨kR,kR,CT,kR⟩
theorem qQ:bZ Tryz.prog 34=some ⟨true,11,128⟩/\kO Tryz.prog 34=some [(0,⟨false,1,8⟩),(1,⟨false,1,8⟩),(2,⟨false,1,8⟩),(3,⟨false,1,16⟩),(4,⟨false,1,16⟩),(5,⟨false,1,24⟩),(6,⟨true,5,48⟩)]/\cA Tryz.prog 34=some (.agg [.int .i64 0, .int .i64 0, .int .i64 0, .str [], .str [], .slice [] .full, .int .i64 0, .int .i64 0, .int .i64 0, .int .i64 0, .str []])/\iW Tryz.prog 34=false:=⟨kR,kR,XK,kR⟩
theorem y35:bZ Tryz.prog 35=some ⟨false,1,24⟩/\cJ Tryz.prog 35=some (60,⟨true,6,72⟩)/\cA Tryz.prog 35=some (.slice [] .full)/\iW Tryz.prog 35=false:=⟨kR,wJ,kR,kR⟩
theorem EN:bZ Tryz.prog 36=some ⟨false,1,8⟩/\cA Tryz.prog 36=some (.int .i64 0)/\iW Tryz.prog 36=false/\AG Tryz.prog 36=some .i64:=⟨XD,kR,kR,kR⟩
theorem lZ:bZ Tryz.prog 39=some ⟨false,1,24⟩/\cJ Tryz.prog 39=some (50,⟨true,2,32⟩)/\cA Tryz.prog 39=some (.slice [] .full)/\iW Tryz.prog 39=false:=⟨kR,dZ,kR,kR⟩
theorem lW:bZ Tryz.prog 40=some ⟨false,1,24⟩/\cJ Tryz.prog 40=some (3,⟨false,1,8⟩)/\cA Tryz.prog 40=some (.slice [] .full)/\iW Tryz.prog 40=false:=⟨kR,eD,kR,kR⟩
theorem qU:bZ Tryz.prog 41=some ⟨false,1,24⟩/\cJ Tryz.prog 41=some (32,⟨true,5,48⟩)/\cA Tryz.prog 41=some (.slice [] .full)/\iW Tryz.prog 41=false:=⟨kR,kD,kR,kR⟩
theorem y42:bZ Tryz.prog 42=some ⟨false,1,8⟩/\cA Tryz.prog 42=some .nilfn:=⟨kR,kR⟩
theorem y43:bZ Tryz.prog 43=some ⟨false,1,8⟩/\cA Tryz.prog 43=some .nilfn:=⟨kR,kR⟩
theorem sV:bZ Tryz.prog 45=some ⟨true,7,104⟩/\kO Tryz.prog 45=some [(0,⟨false,1,24⟩),(1,⟨false,1,24⟩),(2,⟨false,1,24⟩),(3,⟨false,1,8⟩),(4,⟨false,1,8⟩),(5,⟨false,1,8⟩),(6,⟨false,1,8⟩)]/\cA Tryz.prog 45=some (.agg [.slice [] .full, .slice [] .full, .slice [] .full, .int .i64 0, .nilfn, .nilfn, .nilfn])/\iW Tryz.prog 45=false:=⟨kR,kR,kR,kR⟩
theorem jI:bZ Tryz.prog 50=some ⟨true,2,32⟩/\kO Tryz.prog 50=some [(0,⟨false,1,16⟩),(1,⟨false,1,16⟩)]/\cA Tryz.prog 50=some (.agg [.str [], .str []])/\iW Tryz.prog 50=false:=⟨aD9,kR,rJ,kR⟩
theorem qO:bZ Tryz.prog 60=some ⟨true,6,72⟩/\kO Tryz.prog 60=some [(0,⟨false,1,8⟩),(1,⟨false,1,8⟩),(2,⟨false,1,8⟩),(3,⟨false,1,8⟩),(4,⟨false,1,24⟩),(5,⟨false,1,16⟩)]/\cA Tryz.prog 60=some (.agg [.int .i64 0, .int .i64 0, .int .i64 0, .int .i64 0, .slice [] .full, .str []])/\iW Tryz.prog 60=false:=⟨CB,kR,KU,kR⟩
theorem qV:bZ Tryz.prog 61=some ⟨false,1,8⟩/\cA Tryz.prog 61=some (.nilp)/\iW Tryz.prog 61=true:=⟨kR,kR,kR⟩
theorem iB:bZ Tryz.prog 64=some ⟨true,3,24⟩/\kO Tryz.prog 64=some [(0,⟨false,1,8⟩),(1,⟨false,1,8⟩),(2,⟨false,1,8⟩)]/\cA Tryz.prog 64=some (.agg [.int .i64 0, .int .i64 0, .int .i64 0])/\iW Tryz.prog 64=false:=⟨kR,kR,kR,kR⟩
theorem nU:bZ Tryz.prog 67=some ⟨true,2,40⟩/\kO Tryz.prog 67=some [(0,⟨false,1,24⟩),(1,⟨false,1,16⟩)]/\cA Tryz.prog 67=some (.agg [.slice [] .full, .str []])/\iW Tryz.prog 67=false:=⟨pT,kR,kR,kR⟩
theorem y69:bZ Tryz.prog 69=some ⟨false,1,8⟩/\cA Tryz.prog 69=some .nilfn:=⟨kR,kR⟩
theorem uS:bZ Tryz.prog 71=some ⟨true,5,88⟩/\kO Tryz.prog 71=some [(0,⟨false,1,24⟩),(1,⟨false,1,24⟩),(2,⟨false,1,24⟩),(3,⟨false,1,8⟩),(4,⟨false,1,8⟩)]/\cA Tryz.prog 71=some (.agg [.slice [] .full, .slice [] .full, .slice [] .full, .int .i64 0, .nilp])/\iW Tryz.prog 71=false:=⟨kR,kR,kR,kR⟩
theorem y85:bZ Tryz.prog 85=some ⟨false,1,8⟩/\cA Tryz.prog 85=some (.nilp)/\iW Tryz.prog 85=true:=⟨kR,kR,kR⟩
theorem VU:bZ Tryz.prog 87=some ⟨false,1,8⟩/\cA Tryz.prog 87=some (.nilmap)/\iW Tryz.prog 87=false/\rC Tryz.prog 87=some 145:=⟨kR,kR,kR,KE⟩
theorem y88:bZ Tryz.prog 88=some ⟨false,1,8⟩/\cA Tryz.prog 88=some (.nilmap)/\iW Tryz.prog 88=false/\rC Tryz.prog 88=some 3:=⟨kR,kR,kR,aDw⟩
theorem rK:bZ Tryz.prog 90=some ⟨true,7,56⟩/\kO Tryz.prog 90=some [(0,⟨false,1,8⟩),(1,⟨false,1,8⟩),(2,⟨false,1,8⟩),(3,⟨false,1,8⟩),(4,⟨false,1,8⟩),(5,⟨false,1,8⟩),(6,⟨false,1,8⟩)]/\cA Tryz.prog 90=some (.agg [.nilfn, .nilp, .nilmap, .nilmap, .nilfn, .int .i64 0, .int .i64 0])/\iW Tryz.prog 90=false:=⟨kR,kR,kR,kR⟩
theorem pQ:bZ Tryz.prog 102=some ⟨true,3,32⟩/\kO Tryz.prog 102=some [(0,⟨false,1,8⟩),(1,⟨false,1,8⟩),(2,⟨false,1,16⟩)]/\cA Tryz.prog 102=some (.agg [.int .i64 0, .int .i64 0, .str []])/\iW Tryz.prog 102=false:=⟨kR,kR,kR,kR⟩
theorem yA:bZ Tryz.prog 123=some ⟨false,1,24⟩/\cJ Tryz.prog 123=some (64,⟨true,3,24⟩)/\cA Tryz.prog 123=some (.slice [] .full)/\iW Tryz.prog 123=false:=⟨kR,kR,kR,kR⟩
theorem ZS:bZ Tryz.prog 126=some ⟨false,1,8⟩/\cA Tryz.prog 126=some (.nilmap)/\iW Tryz.prog 126=false/\rC Tryz.prog 126=some 176:=⟨kR,kR,kR,kR⟩
theorem BO:bZ Tryz.prog 129=some ⟨true,5,40⟩/\kO Tryz.prog 129=some [(0,⟨false,1,8⟩),(1,⟨true,3,24⟩),(4,⟨false,1,8⟩)]/\cA Tryz.prog 129=some (.agg [.int .i64 0, .int .i64 0, .int .i64 0, .int .i64 0, .nilmap])/\iW Tryz.prog 129=false:=⟨kR,kR,kR,kR⟩
theorem aHt:bZ Tryz.prog 134=some ⟨false,1,8⟩/\cA Tryz.prog 134=some (.int .u64 0)/\iW Tryz.prog 134=false/\AG Tryz.prog 134=some .u64:=⟨kR,kR,kR,fL⟩
theorem fM:bZ Tryz.prog 145=some ⟨false,1,8⟩/\cA Tryz.prog 145=some (.nilp)/\iW Tryz.prog 145=true:=⟨kR,kR,kR⟩
theorem pO:bZ Tryz.prog 147=some ⟨true,7,96⟩/\kO Tryz.prog 147=some [(0,⟨true,2,40⟩),(2,⟨false,1,8⟩),(3,⟨false,1,8⟩),(4,⟨false,1,8⟩),(5,⟨false,1,24⟩),(6,⟨false,1,8⟩)]/\cA Tryz.prog 147=some (.agg [.slice [] .full, .str [], .int .i64 0, .int .i64 0, .int .i64 0, .slice [] .full, .int .i64 0])/\iW Tryz.prog 147=false:=⟨kR,kR,kR,kR⟩
theorem aIp:bZ Tryz.prog 154=some ⟨false,1,24⟩/\cJ Tryz.prog 154=some (9,⟨false,1,16⟩)/\cA Tryz.prog 154=some (.slice [] .full)/\iW Tryz.prog 154=false:=⟨kR,kR,kR,kR⟩
theorem aGf:bZ Tryz.prog 163=some ⟨true,1,8⟩/\kO Tryz.prog 163=some [(0,⟨false,1,8⟩)]/\cA Tryz.prog 163=some (.agg [.int .i64 0])/\iW Tryz.prog 163=false:=⟨kR,kR,kR,kR⟩
theorem zZ:bZ Tryz.prog 176=some ⟨true,4,56⟩/\kO Tryz.prog 176=some [(0,⟨true,2,40⟩),(2,⟨false,1,8⟩),(3,⟨false,1,8⟩)]/\cA Tryz.prog 176=some (.agg [.slice [] .full, .str [], .int .i64 0, .int .i64 0])/\iW Tryz.prog 176=false:=⟨kR,kR,kR,kR⟩
inductive Nd where
 |mk (kind value:Int) (text:List UInt8) (st en ns:Int) (kids:List Nd)
def Nd.kind:Nd->Int| .mk k _ _ _ _ _ _=>k
def Nd.value:Nd->Int| .mk _ v _ _ _ _ _=>v
def Nd.text:Nd->List UInt8| .mk _ _ t _ _ _ _=>t
def Nd.st:Nd->Int| .mk _ _ _ s _ _ _=>s
def Nd.en:Nd->Int| .mk _ _ _ _ e _ _=>e
def Nd.ns:Nd->Int| .mk _ _ _ _ _ n _=>n
def Nd.kids:Nd->List Nd| .mk _ _ _ _ _ _ us=>us
mutual
def Nd.enc:Nd->PV
 | .mk k v t s e n us=>.agg [.int .i64 k, .int .i64 v, .str t, .int .i64 s, .int .i64 e, .int .i64 n, .slice (vH us) .none]
def vH:List Nd->List PV
 | []=> []
 |t::ts=>t.enc::vH ts
end
theorem UL(ts:List Nd):vH ts=ts.map Nd.enc:=by
 induction ts with
 |nil=>rfl
 |cons t ts ih=>simp[vH,ih]
theorem Nd.enc_eq(t:Nd):t.enc= .agg [.int .i64 t.kind, .int .i64 t.value, .str t.text, .int .i64 t.st, .int .i64 t.en, .int .i64 t.ns, .slice (t.kids.map Nd.enc) .none]:=by
 cases t;simp[Nd.enc,UL,Nd.kind,Nd.value,Nd.text,Nd.st,Nd.en,Nd.ns,Nd.kids]
theorem Nd.enc_cells(t:Nd):t.enc.cells= [.int .i64 t.kind, .int .i64 t.value, .str t.text, .int .i64 t.st, .int .i64 t.en, .int .i64 t.ns, .slice (t.kids.map Nd.enc) .none]:=by
 rw[Nd.enc_eq];rfl
theorem Nd.enc_drop1(t:Nd):t.enc.drop1=t.enc:=by rw[Nd.enc_eq];rfl
theorem Nd.enc_len(t:Nd):t.enc.cells.length=7:=by rw[Nd.enc_cells];rfl
theorem Nd.enc_junk(t:Nd):t.enc.isJunk=false:=by rw[Nd.enc_eq];rfl
mutual
theorem Nd.bel(n:Nat):∀t:Nd,bF n t.enc
 | .mk k v t s e m us=>.agg _ (by
   intro c hc;simp only[aN2,aOc,or_false]at hc;rcases hc with rfl|rfl|rfl|rfl|rfl|rfl|rfl
   ·exact .int _ _
   ·exact .int _ _
   ·exact .str _
   ·exact .int _ _
   ·exact .int _ _
   ·exact .int _ _
   ·exact .slice _ _ (QX n us) (λid h=>by cases h))
theorem QX(n:Nat):∀ts:List Nd,∀e∈vH ts,∀c∈e.cells,bF n c
 | []=>λe he=>by simp[vH]at he
 |t::ts=>λe he c hc=>by
  simp only[vH,aN2]at he;rcases he with rfl|he
  ·have h:=Nd.bel n t;rw[Nd.enc_eq]at h hc;cases h with
   |agg _ q=>exact q c hc
  ·exact QX n ts e he c hc
end
mutual
def Nd.size:Nd->Nat
 | .mk _ _ _ _ _ _ us=>1+RC us
def RC:List Nd->Nat
 | []=>0
 |t::ts=>t.size+RC ts
end
inductive Nd.W:Nd->Prop
 |mk {k v t s e n us} (hl:us.length*80<=2^47) (h:∀u∈us,Nd.W u):Nd.W (.mk k v t s e n us)
theorem Nd.W.len{t:Nd}(h:t.W):t.kids.length*80<=2^47:=by cases h with|mk h _=>exact h
mutual
def Nd.eqb:Nd->Nd->Bool
 | .mk k v t s e n us, .mk k' v' t' s' e' n' vs=>decide (k=k')&&decide (v=v')&&decide (t=t')&&decide (s=s')&&decide (e=e')&&decide (n=n')&&vZ us vs
def vZ:List Nd->List Nd->Bool
 | [],[]=>true
 |u::us,v::vs=>u.eqb v&&vZ us vs
 |_,_=>false
end
mutual
theorem Nd.eqb_iff:∀a b:Nd,a.eqb b=true↔a=b
 | .mk k v t s e n us, .mk k' v' t' s' e' n' vs=>by
  simp only[Nd.eqb,aMj,decide_eq_true_eq,Nd.mk.injEq,BC us vs,and_assoc]
theorem BC:∀us vs:List Nd,vZ us vs=true↔us=vs
 | [],[]=>by simp[vZ]
 | [],v::vs=>by simp[vZ]
 |u::us,[]=>by simp[vZ]
 |u::us,v::vs=>by simp[vZ,Nd.eqb_iff u v,BC us vs]
end
theorem Nd.eta(t:Nd):Nd.mk t.kind t.value t.text t.st t.en t.ns t.kids=t:=by cases t;rfl
def Ty.zero:Ty:=.mk 0 0 []
abbrev MSt:=List Ty×List Bool
structure MOk(n:Nat)(s:MSt):Prop where
 l1:s.1.length=n
 l2:s.2.length=n
 w:∀a∈s.1,a.W
theorem rZ{α:Type}{p:α->Bool}{xs:List α}(h:cN p xs>=0):cN p xs<xs.length:=by
 unfold cN at h⊢;cases hq:xs.findIdx? p with
 |none=>rw[hq]at h;simp at h
 |some i=>
  obtain⟨hi,_⟩:=List.findIdx?_eq_some_iff_getElem.1 hq;simp only;omega
set_option maxRecDepth 4000
open Go.Proofs Go.Memo
theorem eX(n:Nat)(a b c:Int):bF n (.agg [aE a,aE b,aE c]):=.agg _ (by simp[bF.int,aE])
theorem eF(n:Nat)(l:List Int)(t:List UInt8):bF n (.agg [.slice (l.map aE) .none, .str t]):=.agg _ (by simp[bM,bF.str])
def dQ(k:QK):PV:=.agg [aE k.1,aE k.2.1,aE k.2.2]
theorem aD(k:QK):(dQ k).cells= [aE k.1,aE k.2.1,aE k.2.2]:=rfl
theorem sN(n:Nat)(l:List QK):bF n (.slice (l.map dQ) .none):=.slice _ _ (λe he c hc=>by
 obtain⟨s,_,rfl⟩:=aNy.1 he;have hc:c∈ [aE s.1,aE s.2.1,aE s.2.2]:=hc;simp at hc;rcases hc with rfl|rfl|rfl<;>exact .int _ _) (λi e=>by cases e)
def ksE(l:List QK):PV:=.slice (l.map dQ) .none
theorem nL(n:Nat)(l:List (List QK)):bF n (.slice (l.map ksE) .none):=.slice _ _ (λe he c hc=>by
 obtain⟨s,_,rfl⟩:=aNy.1 he;have hc:c∈ [ksE s]:=hc;rw[aN8.1 hc];exact sN _ _) (λi e=>by cases e)
theorem vL(n:Nat)(i:Int)(l:List (List QK)):bF n (.agg [aE i, .slice (l.map ksE) .none]):=.agg _ (by simp[nL,bF.int,aE])
theorem UK(us vs:List Int)(ha:us.length<=maxLen):PC Tryz.prog 147 [.slice (us.map aE) .none, .slice (vs.map aE) .none] (.bool (decide (us=vs))):=by
 refine kG (N:=26) Tryz.func147 rfl rfl zz (by simp[bF.int,bF.str,bF.bool,bM,eX,eF,sN,nL,vL,bF.nilp,cV]) (.bool _) ?_;refine sU ?_;refine aV (aS y3 lW) ?_;refine aAl (λbt10=> ?_) (λbt10=> ?_)
 ·
  have hl:¬us.length=vs.length:=by have:=bt10;simp at this;omega
  have hf:decide (us=vs)=false:=decide_eq_false λh=>hl (by rw[h]);refine sU ?_
  repeat refine wS ?_
  refine wT ⟨.inr rfl,_,rfl, ?_⟩;simp only[jN,seval,aE,hf]
 ·
  have hl:us.length=vs.length:=by have:=bt10;simp at this;omega
  repeat refine wS ?_
  refine wK ?_;refine aV (aS y3 lW) ?_
  repeat refine wS ?_
  refine iQ (σ:=Unit) (us.length) (λ(u_:Unit)=> [(0, .slice (us.map aE) .none),(1, .slice (vs.map aE) .none)]) [0,1] ([]) (λ(u_:Unit)=> []) (λ(i:Nat) (u_:Unit)=>∀j (h1:j<i) (h2:j<us.length) (h3:j<vs.length),us[j]=vs[j]) (()) ([]) rfl rfl rfl rfl rfl rfl rfl rfl rfl z7 z7 z7 (λ_=>rfl) (ha) ⟨(dJ eO),(dJ eO),(dJ eO),(dJ eO),trivial⟩ (dJ eO) (λj h=>absurd h z8) (λ_ _ _=>by first|exact aNs _| (simp only[aNo];omega)) ?_ ?_ ?_
  ·exact λi s hg=>⟨by first|exact dN _| (simp only[aN9];assumption)| (refine kI hb' zz ?_;repeat (first|exact dN _|exact trivial|exact eK _| (refine iJ.cons ?_ ?_)| (refine dT (by first|exact bM _ _|exact eX _ _ _ _|exact eF _ _ _|exact sN _ _|exact nL _ _|exact bF.int _ _|exact bF.bool _|exact bF.str _|exact bF.nilp|exact bF.nilfn|exact bF.optr _ _ zz|exact cM _|exact cP _|exact cV _ _|assumption) ?_))),by repeat (first|exact jJ.nil|refine jJ.cons (by first|exact bM _ _|exact eX _ _ _ _|exact eF _ _ _|exact sN _ _|exact nL _ _|exact bF.int _ _|exact bF.bool _|exact bF.str _|exact bF.nilp|exact bF.nilfn|exact bF.optr _ _ zz|exact cM _|exact cP _|exact cV _ _|assumption) ?_)⟩
  ·intro i u_ hi hg;have g1:=fS hi;have hi2:i<vs.length:=z8
   have g3:=fS hi2;have g2:=dF aE hi;have g4:=dF aE hi2;refine aV (bD g1 g2 g3 g4) ?_
   repeat refine wS ?_
   refine eJ (by kernel_rfl) ?_;refine iI (cF y3 lW g1 g2 g3 g4) ?_;refine gG (bD g1 g2 g3 g4) (λbt24=> ?_) (λbt24=> ?_)
   ·
    have hne:¬us[i]=vs[i]:=by simpa using bt24
    have hf:decide (us=vs)=false:=decide_eq_false λh=>hne (by subst h;rfl);refine aV (bD g1 g2 g3 g4) ?_
    repeat refine wS ?_
    refine wT ⟨.inr rfl,_,rfl, ?_⟩;simp only[jN,seval,aE,hf]
   ·
    have heq:us[i]=vs[i]:=by simpa using bt24
    repeat refine wS ?_
    refine wK ?_;exact⟨⟨rfl,rfl,trivial⟩,(),_,⟨rfl,rfl,trivial⟩,rfl,λj h1 h2 h3=>by
     rcases aMo j i with q|q
     ·exact hg j q h2 h3
     ·obtain rfl:j=i:=z8
      exact heq⟩
  ·intro u_ hg;have hf:decide (us=vs)=true:=decide_eq_true (List.ext_getElem hl λj h1 h2=>hg j h1 h1 h2);refine sU ?_
   repeat refine wS ?_
   refine wT ⟨.inr rfl,_,rfl, ?_⟩;simp only[jN,seval,aE,hf]
theorem SC(l m:List Int)(s t:List UInt8)(hl:l.length<=maxLen):PC Tryz.prog 129 [(.agg [.slice (l.map aE) .none, .str s]),(.agg [.slice (m.map aE) .none, .str t])] (.bool (decide (s=t)&&decide (l=m))):=by
 refine kG (N:=17) Tryz.func129 rfl rfl zz (by simp[bF.int,bF.str,bF.bool,bM,eX,eF,sN,nL,vL,bF.nilp,cV]) (.bool _) ?_;refine aV nU ?_
 repeat refine wS ?_
 refine wR ?_;refine eN ?_;refine yL 10 (bD y3 y9 lW nU) ?_;refine aI0 aFe (λhc=>UK l m hl _) ?_;refine aIs ?_
 repeat refine wS ?_
 refine wT ⟨.inr rfl,_,rfl, ?_⟩;simp only[jN,seval,aE]
theorem KT(xs:List Int)(hx:xs.length*8<=2^47):PC Tryz.prog 52 [.slice (xs.map aE) .none] (.slice (xs.map aE) .none):=by
 have em:maxLen=9223372036854775807:=z7
 have happ:xs.map aE≠ []->∀fr HH,cK ⟨false,1,8⟩ fr HH (.slice [] .full) (.slice (xs.map aE) .none)=some (.slice (xs.map aE) (.tok fr),some (fr, .buf xs.length 1)):=λhne fr HH=>by
  have:=zB (i:=⟨false,1,8⟩) (fresh:=fr) (H:=HH) (tl:=.none) hne (by simpa using hx) (by simp;omega) (λe he=>by obtain⟨v,_,rfl⟩:=aNy.1 he;exact⟨rfl,rfl⟩) z7;simpa using this
 refine kG (N:=8) Tryz.func52 rfl rfl zz (by simp[bF.int,bF.str,bF.bool,bM,eX,eF,sN,nL,vL,bF.nilp,cV]) (bM _ _) ?_;refine wV ?_;refine sU ?_;refine MB 1 ?_;refine pV (es:=xs.map aE) (tl:=.none) rfl (dW eO) rfl z7 (by rw[eD];rfl) (λb hb=> ?_);refine oN ?_;refine aAl (λb0=> ?_) (λb0=> ?_)
 ·
  have hxs:xs= []:=by
   cases xs with
   |nil=>rfl
   |cons a l=>rw[hb zz]at b0;cases b0
  subst hxs;refine sU ?_
  repeat refine wS ?_
  refine wT ⟨.inr rfl,_,rfl, ?_⟩;simp only[jN,seval,aE]
 ·
  repeat refine wS ?_
  refine wK ?_;rcases Classical.em (xs= [])with hxs|hxs
  ·
   subst hxs
   repeat refine wS ?_
   refine eE (by simp only[kA,seval,y3,lW,aE,aOb,cK]<;>with_reducible rfl) z7 ?_
   repeat refine wS ?_
   refine wT ⟨.inr rfl,_,rfl, ?_⟩;simp only[jN,seval,aE]
  ·
   have ha:=happ (by simpa using hxs);refine eA 2 (bR y3 lW ha) ?_;refine VY false 0 rfl rfl z7 (v:=.slice (xs.map aE) (.tok 0)) (e:=some (0, .buf xs.length 1)) (by simp only[jN,seval,aE,ha,fN,dA,lW,y3]<;>rfl) rfl ?_;refine bH ha ?_
   repeat refine wS ?_
   refine wT ⟨.inr rfl,_,rfl, ?_⟩;simp only[jN,seval,aE]
end Go.Abs
namespace Go.Abs
def aFj(P:Program)(t:TypeId):Option (Nat×TypeId×TI):=
 match P.underlying t with
 |some (.array n e)=>(bZ P e).map λi=>(n,e,i)
 |_=>none
theorem VG{P:Program}{t:TypeId}{n:Nat}{e:TypeId}{i:TI}(h:aFj P t=some (n,e,i)):P.underlying t=some (.array n e)/\bZ P e=some i:=by
 unfold aFj at h
 split at h
 ·rename_i n' e' hu;cases hi:bZ P e' with
  |none=>rw[hi]at h;cases h
  |some j=>rw[hi]at h;cases h;exact⟨hu,hi⟩
 ·cases h
section
variable{P:Program}{N nb:Nat}{ops:Array Oper}{Q:cT}
theorem uG{o:Oper}{l:List Oper}{T:aJ}{H:aH}{t e:TypeId}{n:Nat}{i:TI}{x y:Operand}{id off:Nat}{kk:IntKind}{k:Nat}(hop:o.op= .indexAddr t x y)(hw:aZ ops.toList T N o=some true)(hok:dC N o.op=true)
  (ht:aFj P t=some (n,e,i)) (hx:bS T x= .optr id off) (hy:bS T y= .int kk (k:Nat)) (hk:k<n)
  (h:bC P N nb ops Q l (bT T o.dst (.optr id (off+k*i.sz))) H):bC P N nb ops Q (o::l) T H:=by
 refine fE hw (λE a ho hvs=> ?_) h;obtain⟨hu,hi⟩:=VG ht;obtain⟨d',f',h5,h6,rfl⟩:=cC hi;rw[hop]at hok hvs;have okx:aU N x=true:=aNz.1 hok _ (by simp[Op.operands]);have oky:aU N y=true:=aNz.1 hok _ (by simp[Op.operands]);have rx:=hvs x (by simp[Op.operands]) okx;have ry:=hvs y (by simp[Op.operands]) oky;rw[hx]at rx;rw[hy]at ry;obtain⟨e1,e2⟩:=rx.optr_inv;have e3:=ry.int_inv;refine⟨.pointer (some ⟨E.view.rho id,off+k*f'.size,none⟩), ?_, .optr _ _ e2⟩;unfold execOp;rw[hop];have hkk:(0:Int)<=(k:Nat)/\((k:Nat):Int)<(n:Nat):=⟨Int.natCast_nonneg k,z8⟩;simp only[e1,e3,Instr.indexAt,Instr.sureAddr,asIntOf,aM9,aNc,aNa,aP hu,cQ h6,if_pos hkk,Sem.run_ite,dH,tN]
end
section
variable{P:Program}{N:Nat}{ops:Array Oper}{Q:cT}
theorem OY{k:Nat}{o:Oper}{l:List Oper}{T:aJ}{G:Nat->Bool}{H:aH}{t y':TypeId}{x y:Operand}{ks:List FT}{ps qs:List PV}(F:xT P t ks)
  (hop:o.op= .binOp .eql t x y y') (hx:bS T x= .agg ps) (hy:bS T y= .agg qs) (fx:xP ks ps=true) (fy:xP ks qs=true) (hc:fK ops.toList T G N o=some true) (hg:o.op.operands.toList.all (AQ true G)=true) (okx:aU N x=true) (oky:aU N y=true)
  (h:DP P N ops Q (k+1) l (hZ (.tup []) (bT T o.dst (.bool (kM ps qs))) (xR G o.dst true)) H):DP P N ops Q k (o::l) (hZ (.tup []) T G) H:=by
 refine lQ hc hg (λE A ho he=> ?_) h;have rx:=he x (by rw[hop];simp[Op.operands]) okx;have ry:=he y (by rw[hop];simp[Op.operands]) oky;rw[hx]at rx;rw[hy]at ry;generalize hvx:A.eval x=vx at rx;generalize hvy:A.eval y=vy at ry;cases rx with
 |agg xs _ a1 a2=>
  cases ry with
  |agg ys _ b1 b2=>
   have g:∀w,(eqGuard .eql t x y (.agg xs) (.agg ys)).run P w= .ok () w:=λw=>by
    unfold eqGuard;simp only[aM9,run_program,aNa,F.gu,aNx,if_true,Sem.run_ite,aNc]
    split<;>rfl
   refine⟨.bool (kM ps qs), ?_, .bool _⟩;unfold execOp;rw[hop];simp only[aM9,hvx,hvy,g,aNa,binOp,LY F (.agg xs _ a1 a2) (.agg ys _ b1 b2) (rG fx) (rG fy) (λi h h1 h2=>⟨tD fx i h h1,tD fy i h h2⟩),aNc]
end
set_option maxRecDepth 4000
open Go.Proofs Go.Memo
theorem aI8:xT Tryz.prog 64 [.int, .int, .int]:=⟨⟨_,Tryz.underlying64,rfl,λi h h2=>by
 match i,h2 with
 |0,_=>exact⟨zz,rfl,Tryz.underlying3⟩
 |1,_=>exact⟨zz,rfl,Tryz.underlying3⟩
 |2,_=>exact⟨zz,rfl,Tryz.underlying3⟩⟩,by kernel_rfl,by kernel_rfl⟩
theorem aH8(k d:QK):kM [aE k.1,aE k.2.1,aE k.2.2] [aE d.1,aE d.2.1,aE d.2.2]=decide (k=d):=by
 obtain⟨a,b,c⟩:=k;obtain⟨x,y,z⟩:=d;simp only[kM,yZ,aE,Bool.and_true,Prod.mk.injEq]
 by_cases h1:a=x<;>by_cases h2:b=y<;>by_cases h3:c=z<;>simp[h1,h2,h3]
theorem YH(n:Nat)(l:List (List QK)):bF n (.slice (l.map ksE) .none):=nL n l
theorem aA(l:List QK):(ksE l).cells= [ksE l]:=rfl
theorem aB(l:List QK):(ksE l).drop1=ksE l:=rfl
theorem aC(k:QK):(dQ k).drop1=dQ k:=rfl
theorem aE0(xs:List QK)(k:QK)(hx:xs.length<=maxLen):PC Tryz.prog 149 [.slice (xs.map dQ) .none,dQ k] (aE (cN (λx=>decide (k=x)) xs)):=by
 refine kG (N:=19) Tryz.func149 rfl rfl zz (by simp[bF.int,bF.str,bF.bool,bM,eX,eF,sN,nL,vL,bF.nilp,cV,dQ]) (.int _ _) ?_
 repeat refine wS ?_
 refine eE (by simp only[kA,seval,iB,aE,aA,aD,aB,aC,dQ]<;>with_reducible rfl) z7 ?_
 repeat refine wS ?_
 refine eE (by simp only[kA,seval,iB,yA,aE,aA,aD,aB,aC,dQ]<;>with_reducible rfl) z7 ?_
 repeat refine wS ?_
 refine iQ (σ:=Unit) (xs.length) (λ(u_:Unit)=> [(0, .slice (xs.map dQ) .none),(3, .optr 0 0)]) [0,3] ([]) (λ(u_:Unit)=> [.row [aE k.1,aE k.2.1,aE k.2.2]]) (λ(i:Nat) (u_:Unit)=>(xs.take i).any (λx=>decide (k=x))=false) (()) (_) rfl rfl rfl rfl rfl rfl rfl rfl rfl z7 z7 z7 (λ_=>rfl) (hx) ⟨(by first|rfl| (simp only[jN,seval,aE,aA,aD,aB,aC,dQ]<;>first|done|with_reducible rfl)),(by first|rfl| (simp only[jN,seval,aE,aA,aD,aB,aC,dQ]<;>first|done|with_reducible rfl)),(by first|rfl| (simp only[jN,seval,aE,aA,aD,aB,aC,dQ]<;>first|done|with_reducible rfl)),(by first|rfl| (simp only[jN,seval,aE,aA,aD,aB,aC,dQ]<;>first|done|with_reducible rfl)),trivial⟩ (by first|rfl| (simp only[jN,seval,aE,aA,aD,aB,aC,dQ]<;>first|done|with_reducible rfl)) zz (λ_ _ _=>by first|exact aNs _| (simp only[aNo];omega)) ?_ ?_ ?_
 ·exact λi s hg=>⟨by simp only[aN7];repeat (first|exact dN _|exact trivial|exact eK _| (refine iJ.cons ?_ ?_)| (refine dT (by first|exact YH _ _|exact bM _ _|exact eX _ _ _ _|exact eF _ _ _|exact sN _ _|exact nL _ _|exact bF.int _ _|exact bF.bool _|exact bF.str _|exact bF.nilp|exact bF.nilfn|exact bF.optr _ _ zz|exact cM _|exact cP _|exact cV _ _|assumption) ?_)),by repeat (first|exact jJ.nil|refine jJ.cons (by first|exact YH _ _|exact bM _ _|exact eX _ _ _ _|exact eF _ _ _|exact sN _ _|exact nL _ _|exact bF.int _ _|exact bF.bool _|exact bF.str _|exact bF.nilp|exact bF.nilfn|exact bF.optr _ _ zz|exact cM _|exact cP _|exact cV _ _|assumption) ?_)⟩
 ·intro i u_ hi hg;have g1:=fS hi;have g2:=dF dQ hi
  repeat refine wS ?_
  refine eE (by simp only[kA,seval,aE,aA,aD,aB,aC,dQ,g1,tN,g2,dQ]<;>with_reducible rfl) z7 ?_
  repeat refine wS ?_
  refine eJ (by kernel_rfl) ?_;refine IB 5 (by simp only[jP,jO,jN,seval,iB,yA,aE,aA,aD,aB,aC,dQ,g1,tN,g2,dQ]<;>with_reducible rfl) z7 ?_;refine OY (ps:= [aE k.1,aE k.2.1,aE k.2.2]) (qs:= [aE xs[i].1,aE xs[i].2.1,aE xs[i].2.2]) aI8 rfl (by simp only[kC,seval,aE,aA,aD,aB,aC,g1,g2,tN,dQ]<;>first|done|rfl) (by simp only[kC,seval,aE,aA,aD,aB,aC,g1,g2,tN,dQ]<;>first|done|rfl) rfl rfl (zN (bD aA aD aB aC)) (TP (bD aA aD aB aC)) z7 z7 ?_;rw[aH8];refine JP (by simp only[jP,jO,jN,seval,aE,aA,aD,aB,aC,dQ,g1,tN,g2,dQ]<;>with_reducible rfl) z7 (by repeat (first|exact fT.base _|with_reducible apply fT.keep|apply fT.drop)) ?_
  repeat refine wS ?_
  refine wC rfl (by simp only[jN,seval,aE,aA,aD,aB,aC,dQ,g1,tN,g2,dQ]<;>with_reducible rfl) (λbt16=> ?_) (λbt16=> ?_)
  ·
   skip
   repeat refine wS ?_
   refine eE (by simp only[kA,seval,aE,aA,aD,aB,aC,dQ,g1,tN,g2,dQ]<;>with_reducible rfl) z7 ?_
   repeat refine wS ?_
   refine wT ⟨.inr rfl,_,rfl, ?_⟩;rw[oQ hi bt16 hg];rfl
  ·
   skip
   repeat refine wS ?_
   refine wK ?_;exact⟨⟨rfl,rfl,trivial⟩,(),_,⟨rfl,rfl,trivial⟩,rfl,iG hi hg bt16⟩
 ·intro u_ hg;rw[aOj]at hg
  repeat refine wS ?_
  refine eE (by simp only[kA,seval,aE,aA,aD,aB,aC,dQ]<;>with_reducible rfl) z7 ?_
  repeat refine wS ?_
  refine wT ⟨.inr rfl,_,rfl, ?_⟩;rw[nR hg];rfl
theorem VF(xs:List QK)(k:QK)(hx:xs.length<=maxLen):PC Tryz.prog 135 [.slice (xs.map dQ) .none,dQ k] (.bool (decide (k∈xs))):=by
 refine kG (N:=9) Tryz.func135 rfl rfl zz (by simp[bF.int,bF.str,bF.bool,bM,eX,eF,sN,nL,vL,bF.nilp,cV,dQ]) (.bool _) ?_
 repeat refine wS ?_
 refine eE (by simp only[kA,seval,iB,aE,aA,aD,aB,aC,dQ]<;>with_reducible rfl) z7 ?_
 repeat refine wS ?_
 refine wR ?_;refine eT 2 (by simp only[kA,seval,iB,aE,aA,aD,aB,aC,dQ]<;>with_reducible rfl) z7 ?_;refine oP (by simp only[kC,seval,aE,aA,aD,aB,aC,dQ]<;>with_reducible rfl) (by simp only[kC,seval,aE,aA,aD,aB,aC,dQ]) z7 aFs (aE0 xs k hx _) ?_;refine xF (by simp only[kA,seval,y3,aE,aA,aD,aB,aC,dQ]<;>with_reducible rfl) z7 ?_
 repeat refine wS ?_
 refine wT ⟨.inr rfl,_,rfl, ?_⟩;rw[show decide (k∈xs)=(xs.any λx=>decide (k=x))from by rw[aN1];simp,<-qD];rfl
theorem QZ(l:List Int)(t:List UInt8)(hl:l.length*8<=2^47):PC Tryz.prog 119 [(.agg [.slice (l.map aE) .none, .str t])] (.agg [.slice (l.map aE) .none, .str t]):=by
 refine kG (N:=9) Tryz.func119 rfl rfl zz (by simp[bF.int,bF.str,bF.bool,bM,eX,eF,sN,nL,vL,bF.nilp,cV]) (eF _ _ _) ?_;refine aV (bL nU aA aD aB aC) ?_
 repeat refine wS ?_
 refine iU 0 rfl (by kernel_rfl) ?_;refine eP 2 rfl (DQ (aG y3 lW nU aA aD aB aC)) z7 z7 z7 ?_;refine wN rfl (zN (bD aA aD aB aC)) (zN (bD aA aD aB aC)) (TP (bD aA aD aB aC)) z7 SF (λhc L=>KT l hl _) ?_;refine eP 3 rfl (DQ (cF y9 nU aA aD aB aC)) z7 z7 z7 ?_;refine mR (by first| (simp only[LS,HS,aOe,aMl,aN7]<;>with_reducible rfl)|rfl) ?_;refine iO (bm:= [0,1,3,0,8,31,63]) (fresh:=0) (by kernel_rfl) (JW (bL nU aA aD aB aC)) z7 (by repeat (first|exact fT.base _|with_reducible apply fT.keep|apply fT.drop)) ?_
 repeat refine wS ?_
 refine wT ⟨.inr rfl,_,(gI 2 67 rfl pT z7 (JA (bD aA aD aB aC))), ?_⟩;simp only[jN,seval,aE,aA,aD,aB,aC]
 try rfl
theorem AM(l:List Int)(t:List UInt8)(hl:l.length*8<=2^47):PC Tryz.prog 106 [(.agg [.slice (l.map aE) .none, .str t])] (.agg [.slice (l.map aE) .none, .str t]):=by
 refine kG (N:=9) Tryz.func106 rfl rfl zz (by simp[bF.int,bF.str,bF.bool,bM,eX,eF,sN,nL,vL,bF.nilp,cV]) (eF _ _ _) ?_;refine aV (bL nU aA aD aB aC) ?_
 repeat refine wS ?_
 refine iU 0 rfl (by kernel_rfl) ?_;refine eP 2 rfl (DQ (aG y3 lW nU aA aD aB aC)) z7 z7 z7 ?_;refine wN rfl (zN (bD aA aD aB aC)) (zN (bD aA aD aB aC)) (TP (bD aA aD aB aC)) z7 SF (λhc L=>KT l hl _) ?_;refine eP 3 rfl (DQ (cF y9 nU aA aD aB aC)) z7 z7 z7 ?_;refine mR (by first| (simp only[LS,HS,aOe,aMl,aN7]<;>with_reducible rfl)|rfl) ?_;refine iO (bm:= [0,1,3,0,8,31,63]) (fresh:=0) (by kernel_rfl) (JW (bL nU aA aD aB aC)) z7 (by repeat (first|exact fT.base _|with_reducible apply fT.keep|apply fT.drop)) ?_
 repeat refine wS ?_
 refine wT ⟨.inr rfl,_,(gI 2 67 rfl pT z7 (JA (bD aA aD aB aC))), ?_⟩;simp only[jN,seval,aE,aA,aD,aB,aC]
 try rfl
end Go.Abs
namespace Go.Memo
section
variable(cp:QK->cR)(rk:QK->Nat)(Good:(QK->QV)->Prop)
def qF(h:QK->qH):QK->QV:=λx=>(h x).val
abbrev Ev(hist:Nat->QK->qH)(t:Nat):QK->QV:=DR cp rk (qF (hist t))
structure ZF(st:St)(hist:Nat->QK->qH)(k:QK)(r:gU):Prop where
 q:k.1≠0
 cv:r.c<=r.v
 vn:r.v<=st.now
 d2:r.D<=2
 val:r.val=Ev cp rk hist r.v k
 deps:∀d,d∈r.deps↔d∈(cp k).reads (Ev cp rk hist r.v)
 i3:∀x,sX cp (Ev cp rk hist r.v) k x->x.1=0->r.D<=(hist r.v x).d
 i5:∀d∈r.deps,d.1≠0->∀rd,st.res d=some rd->rd.c<=r.v->rd.val=Ev cp rk hist r.v d/\r.D<=rd.D
 i6:∀y,sX cp (Ev cp rk hist r.v) k y->y.1≠0->(∀x,sX cp (Ev cp rk hist r.v) y x->x.1=0->(st.cell x).c<=r.v)->∀ry,st.res y=some ry->r.D<=ry.D
structure oK(st:St)(hist:Nat->QK->qH):Prop where
 hnow:hist st.now=st.cell
 hold:∀x t,t<=st.now->(st.cell x).c<=t->hist t x=st.cell x
 hlc:∀x t D,t<(st.cell x).c->D<=(hist t x).d->t<st.lc D
 hc:∀x,(st.cell x).c<=st.now
 good:∀t,t<=st.now->Good (qF (hist t))
 recs:∀k r,st.res k=some r->ZF cp rk st hist k r
structure Bnd:Prop where
 rank:yJ cp rk
 okv:∀inp,Good inp->∀k,FI (DR cp rk inp k)=true
 okr:∀inp,Good inp->∀k:QK,k.1≠0->((cp k).reads (DR cp rk inp)).length<=rD
variable{cp rk Good}
theorem sX.rank(h:yJ cp rk){e:QK->QV}{k y:QK}(hc:sX cp e k y):y.1≠0->rk y<rk k:=by
 induction hc with
 |dir hk hd=>exact λh0=>(cR.bel_reads _ (h.below _ hk) _ hd).resolve_left h0
 |step hk hd h1 ih=>exact λh0=>Nat.lt_trans (ih h0) ((cR.bel_reads _ (h.below _ hk) _ hd).resolve_left h1.src)
theorem oK.clk{st:St}{hist:Nat->QK->qH}(hi:oK cp rk Good st hist)(n:Nat):oK cp rk Good {st with clk:=n} hist:=
 ⟨hi.hnow,hi.hold,hi.hlc,hi.hc,hi.good,λq r hq=>by
  have ho:=hi.recs q r hq;exact⟨ho.q,ho.cv,ho.vn,ho.d2,ho.val,ho.deps,ho.i3,ho.i5,ho.i6⟩⟩
structure Fr(rk:QK->Nat)(b:Nat)(st st':St):Prop where
 now:st'.now=st.now
 lc:st'.lc=st.lc
 cell:st'.cell=st.cell
 stay:∀q r,st.res q=some r->r.v=st.now->st'.res q=some r
 high:∀q,b<=rk q->st'.res q=st.res q
theorem Fr.refl(b:Nat)(st:St):Fr rk b st st:=⟨rfl,rfl,rfl,λ_ _ h _=>h,λ_ _=>rfl⟩
theorem Fr.trans{b:Nat}{s1 s2 s3:St}(h:Fr rk b s1 s2)(k:Fr rk b s2 s3):Fr rk b s1 s3:=
 ⟨k.now.trans h.now,k.lc.trans h.lc,k.cell.trans h.cell,λq r hq hv=>k.stay q r (h.stay q r hq hv) (by rw[h.now];exact hv),λq hq=>(k.high q hq).trans (h.high q hq)⟩
theorem Fr.mono{b c:Nat}{s1 s2:St}(h:Fr rk b s1 s2)(hb:b<=c):Fr rk c s1 s2:=
 ⟨h.now,h.lc,h.cell,h.stay,λq hq=>h.high q (aMr hb hq)⟩
section
variable(hB:Bnd cp rk Good){hist:Nat->QK->qH}
include hB
theorem oK.stab{st:St}(hi:oK cp rk Good st hist){k:QK}(hk:k.1≠0){v:Nat}(hv:v<=st.now)(hs:∀x,sX cp (Ev cp rk hist v) k x->x.1=0->(st.cell x).c<=v){t:Nat}(h1:v<=t)(h2:t<=st.now):
  Ev cp rk hist t k=Ev cp rk hist v k/\(cp k).reads (Ev cp rk hist t)=(cp k).reads (Ev cp rk hist v)/\∀y,sX cp (Ev cp rk hist t) k y↔sX cp (Ev cp rk hist v) k y:=
 aEa hB.rank (rk k+1) k (Nat.lt_succ_self _) hk λx hx h0=>by
  have:=hs x hx h0;simp only[qF];rw[hi.hold x t h2 (aMr this h1),hi.hold x v hv this]
def KM(cp:QK->cR)(rk:QK->Nat)(Good:(QK->QV)->Prop)(hist:Nat->QK->qH)(b:Nat)(u:QK->St->qS gU):Prop:=
 ∀(d:QK) (st:St),d.1≠0->rk d<b->oK cp rk Good st hist->∃o st',u d st=some (o,st')/\oK cp rk Good st' hist/\Fr rk (rk d+1) st st'/\∀r,o=some r->st'.res d=some r/\r.v=st.now
omit hB in
theorem NQ{b:Nat}{u:QK->St->qS gU}(hu:KM cp rk Good hist b u)(v:Nat):∀(ds:List QK) (st:St),(∀d∈ds,d.1=0\/rk d<b)->oK cp rk Good st hist->
  ∃o st',FY u v ds st=some (o,st')/\oK cp rk Good st' hist/\Fr rk b st st'/\(o=some false->∀d∈ds,(d.1=0->(st.cell d).c<=v)/\(d.1≠0->∃rd,st'.res d=some rd/\rd.v=st.now/\rd.c<=v))
 | [],st,_,hi=>⟨some false,st,rfl,hi, .refl _ _,λ_ d hd=>by cases hd⟩
 |d::ds,st,hr,hi=>by
  unfold FY
  by_cases h0:d.1=0
  ·rw[if_pos h0]
   by_cases hc:v<(st.cell d).c
   ·rw[if_pos hc];exact⟨some true,st,rfl,hi, .refl _ _,λh=>by cases h⟩
   ·rw[if_neg hc];obtain⟨o,st',h1,h2,h3,h4⟩:=NQ hu v ds st (λx hx=>hr x (by simp[hx])) hi;refine⟨o,st',h1,h2,h3,λho x hx=> ?_⟩;rcases aN2.1 hx with rfl|hx
    ·exact⟨λ_=>z8,λh=>absurd h0 h⟩
    ·exact h4 ho x hx
  ·rw[if_neg h0];have hlt:rk d<b:=(hr d zz).resolve_left h0;obtain⟨o,s1,h1,h2,h3,h4⟩:=hu d st h0 hlt hi;have h3':Fr rk b st s1:=h3.mono hlt;rw[h1];cases o with
   |none=>exact⟨none,s1,rfl,h2,h3',λh=>by cases h⟩
   |some r=>
    obtain⟨h5,h6⟩:=h4 r rfl;dsimp only
    by_cases hc:v<r.c
    ·rw[if_pos hc];exact⟨some true,s1,rfl,h2,h3',λh=>by cases h⟩
    ·rw[if_neg hc];obtain⟨o,st',g1,g2,g3,g4⟩:=NQ hu v ds s1 (λx hx=>hr x (by simp[hx])) h2;refine⟨o,st',g1,g2,h3'.trans g3,λho x hx=> ?_⟩;rcases aN2.1 hx with rfl|hx
     ·exact⟨λh=>absurd h h0,λ_=>⟨r,g3.stay _ _ h5 (by rw[h3.now];exact h6),h6,z8⟩⟩
     ·have:=g4 ho x hx;rw[h3.now,h3.cell]at this;exact this
theorem OI{b:Nat}{u:QK->St->qS gU}(hu:KM cp rk Good hist b u):∀(p:cR) (a:xY) (st:St),p.bel (λd=>d.1=0\/rk d<b)->oK cp rk Good st hist->a.deps.length+(p.reads (Ev cp rk hist st.now)).length<=rD->p.safe (Ev cp rk hist st.now)->
  ∃o a' st',lL (mB u) p (a,st)=some (o,(a',st'))/\oK cp rk Good st' hist/\Fr rk b st st'/\∀v,o=some v->v=p.den (Ev cp rk hist st.now)/\(∀d,d∈a'.deps↔d∈a.deps\/d∈p.reads (Ev cp rk hist st.now))/\a'.D<=a.D/\
   (∀d∈p.reads (Ev cp rk hist st.now),d.1=0->a'.D<=(st.cell d).d)/\(∀d∈p.reads (Ev cp rk hist st.now),d.1≠0->∃rd,st'.res d=some rd/\rd.v=st.now/\a'.D<=rd.D)/\
   (∀m,m<=a.D->(∀d∈p.reads (Ev cp rk hist st.now),d.1=0->m<=(st.cell d).d)->(∀d∈p.reads (Ev cp rk hist st.now),d.1≠0->∀rd,st'.res d=some rd->m<=rd.D)->m<=a'.D)
 | .bad,a,st,_,hi,_,hsf=>hsf.elim
 | .ret v,a,st,_,hi,_,_=>⟨some v,a,st,rfl,hi, .refl _ _,λw hw=>by
   cases hw;exact⟨rfl,λd=>by simp[cR.reads],aMq _,λd hd=>by simp[cR.reads]at hd,λd hd=>by simp[cR.reads]at hd,λm hm _ _=>hm⟩⟩
 | .get k c,a,st,hp,hi,hl,hsf=>by
  have hal:NX a=true:=by
   simp only[cR.reads,aM7]at hl;simp only[NX,decide_eq_true_eq];omega
  have hnew:∀d,(a.add k d).deps.length<=a.deps.length+1:=by
   intro d;simp only[xY.add]
   split<;>simp
  have hmem:∀d x,x∈(a.add k d).deps↔x∈a.deps\/x=k:=by
   intro d x;simp only[xY.add]
   split
   ·rename_i hk;exact⟨.inl,λh=>h.elim id (λe=>e▸hk)⟩
   ·simp
  unfold lL mB
  by_cases h0:k.1=0
  ·have hval:Ev cp rk hist st.now k=(st.cell k).val:=by
    rw[Ev,vR _ h0,qF,hi.hnow]
   have hov:FI (st.cell k).val=true:=by
    rw[<-hval];exact hB.okv _ (hi.good _ (aMq _)) k
   dsimp only;rw[if_pos h0,if_pos (show(FI (st.cell k).val&&NX a)=true by rw[hov,hal];rfl)];dsimp only;simp only[cR.reads,hval]at hl⊢;obtain⟨o,a',st',h1,h2,h3,h4⟩:=OI hu (c (st.cell k).val) (a.add k (st.cell k).d) st (hp.2 _) hi (by have:=hnew (st.cell k).d;simp only[aM7]at hl;omega) (by have:=hsf;simp only[cR.safe,hval]at this;exact this);refine⟨o,a',st',h1,h2,h3,λv hv=> ?_⟩;obtain⟨g1,g2,g3,g4,g5,g6⟩:=h4 v hv;have g3':a'.D<=a.D/\a'.D<=(st.cell k).d:=by
    have:(a.add k (st.cell k).d).D=min a.D (st.cell k).d:=rfl;omega
   refine⟨by rw[g1,cR.den,hval],λd=> ?_,g3'.1,λd hd h=> ?_,λd hd h=> ?_,λm hm p1 p2=> ?_⟩
   ·rw[g2,hmem,aN2];constructor
    ·rintro((h|h)|h)
     ·exact .inl h
     ·exact .inr (.inl h)
     ·exact .inr (.inr h)
    ·rintro(h|h|h)
     ·exact .inl (.inl h)
     ·exact .inl (.inr h)
     ·exact .inr h
   ·rcases aN2.1 hd with rfl|hd
    ·exact g3'.2
    ·exact g4 d hd h
   ·rcases aN2.1 hd with rfl|hd
    ·exact absurd h0 h
    ·exact g5 d hd h
   ·refine g6 m ?_ (λd hd=>p1 d (aOg _ hd)) (λd hd=>p2 d (aOg _ hd));have:=p1 k zz h0;have:(a.add k (st.cell k).d).D=min a.D (st.cell k).d:=rfl;omega
  ·have hlt:rk k<b:=hp.1.resolve_left h0;obtain⟨o,s1,h1,h2,h3,h4⟩:=hu k st h0 hlt hi;have h3':Fr rk b st s1:=h3.mono hlt;dsimp only;rw[if_neg h0,h1];cases o with
   |none=>exact⟨none,a,s1,rfl,h2,h3',λv hv=>by cases hv⟩
   |some r=>
    obtain⟨h5,h6⟩:=h4 r rfl;have hval:Ev cp rk hist st.now k=r.val:=by
     have:=(h2.recs k r h5).val;rw[h6]at this;exact this.symm
    have hov:FI r.val=true:=by
     rw[<-hval];exact hB.okv _ (hi.good _ (aMq _)) k
    dsimp only;rw[if_pos (show(FI r.val&&NX a)=true by rw[hov,hal];rfl)];dsimp only;simp only[cR.reads,hval]at hl⊢;have ih:=OI hu (c r.val) (a.add k r.D) s1 (hp.2 _) h2 (by rw[h3.now];have:=hnew r.D;simp only[aM7]at hl;omega) (by rw[h3.now];have:=hsf;simp only[cR.safe,hval]at this;exact this);rw[h3.now,h3.cell]at ih;obtain⟨o,a',st',h1,h2',h3'',h4⟩:=ih;refine⟨o,a',st',h1,h2',h3'.trans h3'',λv hv=> ?_⟩;obtain⟨g1,g2,g3,g4,g5,g6⟩:=h4 v hv;have hst:st'.res k=some r:=h3''.stay k r h5 (by rw[h3.now];exact h6);have g3':a'.D<=a.D/\a'.D<=r.D:=by
     have:(a.add k r.D).D=min a.D r.D:=rfl;omega
    refine⟨by rw[g1,cR.den,hval],λd=> ?_,g3'.1,λd hd h=> ?_,λd hd h=> ?_,λm hm p1 p2=> ?_⟩
    ·rw[g2,hmem,aN2];constructor
     ·rintro((h|h)|h)
      ·exact .inl h
      ·exact .inr (.inl h)
      ·exact .inr (.inr h)
     ·rintro(h|h|h)
      ·exact .inl (.inl h)
      ·exact .inl (.inr h)
      ·exact .inr h
    ·rcases aN2.1 hd with rfl|hd
     ·exact absurd h h0
     ·exact g4 d hd h
    ·rcases aN2.1 hd with rfl|hd
     ·exact⟨r,hst,h6,g3'.2⟩
     ·exact g5 d hd h
    ·refine g6 m ?_ (λd hd=>p1 d (aOg _ hd)) (λd hd=>p2 d (aOg _ hd));have:=p2 k zz h0 r hst;have:(a.add k r.D).D=min a.D r.D:=rfl;omega
omit hB in
theorem KF{s:St}(hi:oK cp rk Good s hist){k:QK}{R:gU}{n:Int}(hR:ZF cp rk {s with res:=eQ s.res k (some R),comps:=n} hist k R)
  (h5:∀q r,q≠k->s.res q=some r->k∈r.deps->R.c<=r.v->R.val=Ev cp rk hist r.v k/\r.D<=R.D)
  (h6:∀q r,q≠k->s.res q=some r->sX cp (Ev cp rk hist r.v) q k->(∀x,sX cp (Ev cp rk hist r.v) k x->x.1=0->(s.cell x).c<=r.v)->r.D<=R.D):
  oK cp rk Good {s with res:=eQ s.res k (some R),comps:=n} hist:=by
 refine⟨hi.hnow,hi.hold,hi.hlc,hi.hc,hi.good,λq r hq=> ?_⟩
 by_cases e:q=k
 ·subst e;have:some R=some r:=by simpa[eQ]using hq
  cases this;exact hR
 ·have hq':s.res q=some r:=by simpa[eQ,e]using hq
  have ho:=hi.recs q r hq';refine⟨ho.q,ho.cv,ho.vn,ho.d2,ho.val,ho.deps,ho.i3,λd hd h0 rd hrd hc=> ?_,λy hy h0 hs ry hry=> ?_⟩
  ·by_cases e2:d=k
   ·subst e2;have:some R=some rd:=by simpa[eQ]using hrd
    cases this;exact h5 q r e hq' hd hc
   ·exact ho.i5 d hd h0 rd (by simpa[eQ,e2]using hrd) hc
  ·by_cases e2:y=k
   ·subst e2;have:some R=some ry:=by simpa[eQ]using hry
    cases this;exact h6 q r e hq' hy hs
   ·exact ho.i6 y hy h0 hs ry (by simpa[eQ,e2]using hry)
end
end
end Go.Memo
namespace Go.Memo
section
variable{cp:QK->cR}{rk:QK->Nat}{Good:(QK->QV)->Prop}(hB:Bnd cp rk Good){hist:Nat->QK->qH}
include hB
omit hB in
theorem GF(f:QK->Option gU)(k:QK)(r:gU):eQ f k (some r) k=some r:=by simp[eQ]
omit hB in
theorem nV{f:QK->Option gU}{k q:QK}{r:Option gU}(h:q≠k):eQ f k r q=f q:=by simp[eQ,h]
theorem low{s:St}(hi:oK cp rk Good s hist){q k:QK}{r:gU}(hq:s.res q=some r)(hk:k.1≠0)(hc:sX cp (Ev cp rk hist r.v) q k)
  (hs:∀x,sX cp (Ev cp rk hist r.v) k x->x.1=0->(s.cell x).c<=r.v) {D:Nat}
  (hm:∀m,m<=2->(∀d∈(cp k).reads (Ev cp rk hist s.now),d.1=0->m<=(s.cell d).d)->(∀d∈(cp k).reads (Ev cp rk hist s.now),d.1≠0->∀rd,s.res d=some rd->m<=rd.D)->m<=D):r.D<=D:=by
 have ho:=hi.recs q r hq;obtain⟨e1,e2,e3⟩:=hi.stab hB hk ho.vn hs ho.vn (aMq _);rw[e2]at hm;refine hm r.D ho.d2 (λd hd h0=> ?_) (λd hd h0 rd hrd=> ?_)
 ·have:=ho.i3 d (hc.trans (.dir hk hd)) h0;rw[hi.hold d r.v ho.vn (hs d (.dir hk hd) h0)]at this;exact this
 ·exact ho.i6 d (hc.trans (.dir hk hd)) h0 (λx hx hx0=>hs x (.step hk hd hx) hx0) rd hrd
theorem GJ{k:QK}{u:QK->St->qS gU}(hu:KM cp rk Good hist (rk k) u)(stp:Int->Bool)(hk:k.1≠0){st:St}(hi:oK cp rk Good st hist)(hnv:∀r,st.res k=some r->r.v≠st.now)(hsf:(cp k).safe (Ev cp rk hist st.now)):
  ∃o st',oI u stp cp k st=some (o,st')/\oK cp rk Good st' hist/\Fr rk (rk k+1) st st'/\∀r,o=some r->st'.res k=some r/\r.v=st.now:=by
 unfold oI
 by_cases hst:stp st.comps=true
 ·rw[if_pos hst];exact⟨none,st,rfl,hi, .refl _ _,λr h=>by cases h⟩
 rw[if_neg hst];obtain⟨o,a,s,h1,h2,h3,h4⟩:=OI hB hu (cp k) ⟨[],2⟩ st (hB.rank.below k hk) hi (by have:=hB.okr _ (hi.good _ (aMq _)) k hk;simpa using this) hsf;rw[h1];have h3':Fr rk (rk k+1) st s:=h3.mono (Nat.le_succ _);cases o with
 |none=>exact⟨none,s,rfl,h2,h3',λr h=>by cases h⟩
 |some v=>
  obtain⟨g1,g2,g3,g4,g5,g6⟩:=h4 v rfl;have hval:v=Ev cp rk hist st.now k:=by rw[g1,Ev,BH hB.rank _ hk]
  have hov:FI v=true:=by rw[hval];exact hB.okv _ (hi.good _ (aMq _)) k
  dsimp only;rw[if_pos hov];simp only[aOc,false_or]at g2;have hsk:s.res k=st.res k:=h3.high k (aMq _);have hn:tP (s.res k) st.now a.D v<=st.now:=by
   unfold tP
   split
   ·rename_i o ho
    split
    ·have:=h2.recs k o ho;have h5:=this.cv;have h6:=this.vn;rw[h3.now]at h6;omega
    ·omega
   ·omega
  have hne:∀d∈(cp k).reads (Ev cp rk hist st.now),d.1≠0->d≠k:=λd hd h0 e=>by
   have:=(cR.bel_reads _ (hB.rank.below k hk) d hd).resolve_left h0;rw[e]at this;omega
  have hlow:∀q r,s.res q=some r->sX cp (Ev cp rk hist r.v) q k->(∀x,sX cp (Ev cp rk hist r.v) k x->x.1=0->(s.cell x).c<=r.v)->r.D<=a.D:=by
   intro q r hq hc hs;refine low hB h2 hq hk hc hs λm hm p1 p2=> ?_;rw[h3.now,h3.cell]at p1;rw[h3.now]at p2;exact g6 m hm p1 p2
  refine⟨_,_,rfl,KF h2 ?_ ?_ ?_, ?_,λr hr=> ?_⟩
  ·refine⟨hk,hn, ?_,g3,hval,g2,λx hx h0=> ?_,λd hd h0 rd hrd hc=> ?_,λy hy h0 hs ry hry=> ?_⟩
   ·show st.now<=s.now;rw[h3.now];exact aMq _
   ·show a.D<=_;obtain⟨d,hd,h⟩:=hx.cases';rcases h with rfl|h
    ·rw[hi.hnow];exact g4 d hd h0
    ·obtain⟨rd,r1,r2,r3⟩:=g5 d hd h.src;have:=(h2.recs d rd r1).i3 x (by rw[r2];exact h) h0;rw[r2]at this;exact aMr r3 this
   ·have hd':d∈(cp k).reads (Ev cp rk hist st.now):=(g2 d).1 hd;obtain⟨rd',r1,r2,r3⟩:=g5 d hd' h0;have hrd':s.res d=some rd:=by rw[<-hrd];exact(nV (hne d hd' h0)).symm
    rw[hrd']at r1;cases r1;have:=(h2.recs d rd hrd').val;rw[r2]at this;exact⟨this,r3⟩
   ·have hry':s.res y=some ry:=by
     rw[<-hry];refine(nV ?_).symm;intro e;have:=hy.rank hB.rank h0;rw[e]at this;omega
    obtain⟨d,hd,h⟩:=hy.cases';rcases h with rfl|h
    ·obtain⟨rd',r1,r2,r3⟩:=g5 d hd h0;rw[hry']at r1;cases r1;exact r3
    ·obtain⟨rd,r1,r2,r3⟩:=g5 d hd h.src;have:=(h2.recs d rd r1).i6 y (by rw[r2];exact h) h0 (by rw[r2];exact hs) ry hry';exact aMr r3 this
  ·intro q r hq hr hd hc;have ho:=h2.recs q r hr;have hrd:k∈(cp q).reads (Ev cp rk hist r.v):=(ho.deps k).1 hd;have hcase:(∃o,s.res k=some o/\o.D<=a.D/\o.val=v/\o.c<=r.v)\/r.v=s.now:=by
    simp only[tP]at hc
    split at hc
    ·rename_i o ho'
     split at hc
     ·rename_i h;exact .inl ⟨o,ho',h.1,h.2,hc⟩
     ·right;have:=ho.vn;rw[h3.now]at this⊢;omega
    ·right;have:=ho.vn;rw[h3.now]at this⊢;omega
   rcases hcase with⟨o,o1,o2,o3,o4⟩|hv
   ·obtain⟨e1,e2⟩:=ho.i5 k hd hk o o1 o4;exact⟨by rw[<-e1,o3],aMr e2 o2⟩
   ·refine⟨?_,hlow q r hr (.dir ho.q hrd) λx hx h0=>by rw[hv];exact h2.hc x⟩;rw[hv,h3.now];exact hval
  ·intro q r hq hr hc hs;exact hlow q r hr hc hs
  ·refine⟨h3.now,h3.lc,h3.cell,λq r hq hv=> ?_,λq hq=> ?_⟩
   ·have hqk:q≠k:=by rintro rfl;exact hnv r hq hv
    exact(nV hqk).trans (h3.stay q r hq hv)
   ·have hqk:q≠k:=by rintro rfl;omega
    exact(nV hqk).trans (h3.high q z8)
  ·cases hr;exact⟨GF _ _ _,rfl⟩
omit hB in
theorem RR{k:QK}{st s:St}(hf:Fr rk (rk k) st s)(hk:k.1≠0)(hi:oK cp rk Good s hist){r:gU}(hr:s.res k=some r)
  (hR:ZF cp rk {s with res:=eQ s.res k (some {r with v:=s.now}),comps:=s.comps} hist k {r with v:=s.now}) (hv:r.v≠s.now):
  ∃o st',keep k r s=some (o,st')/\oK cp rk Good st' hist/\Fr rk (rk k+1) st st'/\∀r,o=some r->st'.res k=some r/\r.v=st.now:=by
 refine⟨_,_,rfl,KF (n:=s.comps) hi hR (λq r' hq hr' hd hc=> ?_) (λq r' hq hr' hc hs=> ?_), ?_,λr' hr'=> ?_⟩
 ·exact(hi.recs q r' hr').i5 k hd hk r hr hc
 ·exact(hi.recs q r' hr').i6 k hc hk hs r hr
 ·refine⟨hf.now,hf.lc,hf.cell,λq r' hq h=> ?_,λq hq=> ?_⟩
  ·have h1:=hf.stay q r' hq h;have hqk:q≠k:=by
    rintro rfl;rw[hr]at h1;cases h1;exact hv (by rw[hf.now];exact h)
   exact(nV hqk).trans h1
  ·have hqk:q≠k:=by rintro rfl;omega
   exact(nV hqk).trans (hf.high q z8)
 ·cases hr';exact⟨GF _ _ _,hf.now⟩
theorem aCi{k:QK}{u:QK->St->qS gU}(hu:KM cp rk Good hist (rk k) u)(stp:Int->Bool)(hk:k.1≠0){st:St}(hi:oK cp rk Good st hist)(hsf:(cp k).safe (Ev cp rk hist st.now)):
  ∃o st',LV u stp cp k st=some (o,st')/\oK cp rk Good st' hist/\Fr rk (rk k+1) st st'/\∀r,o=some r->st'.res k=some r/\r.v=st.now:=by
 unfold LV;cases hr:st.res k with
 |none=>exact GJ hB hu stp hk hi (λr h=>by rw[hr]at h;cases h) hsf
 |some r=>
  have ho:=hi.recs k r hr;dsimp only
  by_cases hv:r.v=st.now
  ·rw[if_pos (.inl hv)];have e1:({r with v:=st.now}:gU)=r:=by rw[<-hv]
   have e2:eQ st.res k (some r)=st.res:=by funext q;by_cases e:q=k<;>simp[eQ,e,hr]
   refine⟨some r,st, ?_,hi, .refl _ _,λr' h=>by cases h;exact⟨hr,hv⟩⟩;unfold keep;rw[e1,e2]
  have hvl:r.v<st.now:=Nat.lt_of_le_of_ne ho.vn hv;have hvn:∀r',st.res k=some r'->r'.v≠st.now:=λr' h=>by rw[hr]at h;cases h;exact hv
  have hnk:∀d∈(cp k).reads (Ev cp rk hist r.v),d.1=0\/rk d<rk k:=λd hd=>cR.bel_reads _ (hB.rank.below k hk) d hd
  by_cases hl:st.lc r.D<=r.v
  ·rw[if_pos (.inr hl)];have hs:∀x,sX cp (Ev cp rk hist r.v) k x->x.1=0->(st.cell x).c<=r.v:=by
    intro x hx h0;rcases aMo r.v (st.cell x).c with h|h
    ·have:=hi.hlc x r.v r.D h (ho.i3 x hx h0);omega
    ·exact h
   obtain⟨e1,e2,e3⟩:=hi.stab hB hk ho.vn hs ho.vn (aMq _);have hst:∀y,sX cp (Ev cp rk hist r.v) k y->y.1≠0->Ev cp rk hist st.now y=Ev cp rk hist r.v y/\(∀t,r.v<=t->t<=st.now->Ev cp rk hist t y=Ev cp rk hist r.v y):=λy hy h0=>by
    have hh:∀x,sX cp (Ev cp rk hist r.v) y x->x.1=0->(st.cell x).c<=r.v:=λx hx=>hs x (hy.trans hx);exact⟨(hi.stab hB h0 ho.vn hh ho.vn (aMq _)).1,λt h1 h2=>(hi.stab hB h0 ho.vn hh h1 h2).1⟩
   refine RR (.refl _ _) hk hi hr ⟨hk, ?_,aMq _,ho.d2, ?_, ?_, ?_, ?_, ?_⟩ hv
   ·exact aMr ho.cv ho.vn
   ·exact ho.val.trans e1.symm
   ·intro d;rw[ho.deps d];simp only;rw[e2]
   ·intro x hx h0;have hx':=(e3 x).1 hx;have h1:=ho.i3 x hx' h0;rw[hi.hold x r.v ho.vn (hs x hx' h0)]at h1;simp only[hi.hnow];exact h1
   ·intro d hd h0 rd hrd hc;have hd':=(ho.deps d).1 hd;have hne:d≠k:=λe=>by have:=(hnk d hd').resolve_left h0;rw[e]at this;omega
    have hrd':st.res d=some rd:=by rw[<-hrd];exact(nV hne).symm
    have hcl:sX cp (Ev cp rk hist r.v) k d:=.dir hk hd';have hod:=hi.recs d rd hrd';refine⟨?_,ho.i6 d hcl h0 (λx hx=>hs x (hcl.trans hx)) rd hrd'⟩;simp only;rw[(hst d hcl h0).1];rcases aMo r.v rd.c with h|h
    ·rw[hod.val];exact(hst d hcl h0).2 rd.v (aMr (Nat.le_of_lt h) hod.cv) hod.vn
    ·exact(ho.i5 d hd h0 rd hrd' h).1
   ·intro y hy h0 _ ry hry;have hy':=(e3 y).1 hy;have hne:y≠k:=λe=>by have:=hy'.rank hB.rank h0;rw[e]at this;omega
    exact ho.i6 y hy' h0 (λx hx=>hs x (hy'.trans hx)) ry (by rw[<-hry];exact(nV hne).symm)
  ·rw[if_neg (λh=>h.elim hv hl)];obtain⟨o,s,h1,h2,h3,h4⟩:=NQ hu r.v r.deps st (λd hd=>hnk d ((ho.deps d).1 hd)) hi;rw[h1];have hsk:s.res k=some r:=by rw[h3.high k (aMq _)];exact hr
   cases o with
   |none=>exact⟨none,s,rfl,h2,h3.mono (Nat.le_succ _),λr h=>by cases h⟩
   |some bb=>
    cases bb with
    |true=>
     dsimp only;obtain⟨o,st',g1,g2,g3,g4⟩:=GJ hB hu stp hk h2 (λr' h=>by rw[hsk]at h;cases h;rw[h3.now];exact hv) (by rw[h3.now];exact hsf);exact⟨o,st',g1,g2,(h3.mono (Nat.le_succ _)).trans g3,λr h=>by rw[<-h3.now];exact g4 r h⟩
    |false=>
     dsimp only;have h4:=h4 rfl;have ho:=h2.recs k r hsk;have hdv:∀d∈(cp k).reads (Ev cp rk hist r.v),Ev cp rk hist s.now d=Ev cp rk hist r.v d:=by
      intro d hd;obtain⟨p1,p2⟩:=h4 d ((ho.deps d).2 hd)
      by_cases h0:d.1=0
      ·have:=p1 h0;rw[<-h3.cell]at this;rw[Ev,Ev,vR _ h0,vR _ h0,qF,qF,h2.hold d r.v ho.vn this,h2.hnow]
      ·obtain⟨rd,r1,r2,r3⟩:=p2 h0;have:=(h2.recs d rd r1).val;rw[r2,<-h3.now]at this;rw[<-this];exact(ho.i5 d ((ho.deps d).2 hd) h0 rd r1 r3).1
     obtain⟨c1,c2⟩:=cR.congr (e:=Ev cp rk hist r.v) (e':=Ev cp rk hist s.now) (cp k) hdv;have hval:Ev cp rk hist s.now k=Ev cp rk hist r.v k:=by
      rw[Ev,Ev,BH hB.rank _ hk,BH hB.rank _ hk];exact c1
     refine RR h3 hk h2 hsk ⟨hk, ?_,aMq _,ho.d2, ?_, ?_, ?_, ?_, ?_⟩ (by rw[h3.now];exact hv)
     ·exact aMr ho.cv ho.vn
     ·exact ho.val.trans hval.symm
     ·intro d;rw[ho.deps d];simp only;rw[c2]
     ·intro x hx h0;obtain⟨d,hd,h⟩:=hx.cases';simp only[c2]at hd;obtain⟨p1,p2⟩:=h4 d ((ho.deps d).2 hd);rcases h with rfl|h
      ·have h5:=ho.i3 d (.dir hk hd) h0;have h6:=p1 h0;rw[<-h3.cell]at h6;rw[h2.hold d r.v ho.vn h6]at h5;simp only[h2.hnow];exact h5
      ·obtain⟨rd,r1,r2,r3⟩:=p2 h.src;have h5:=(ho.i5 d ((ho.deps d).2 hd) h.src rd r1 r3).2;rw[<-h3.now]at r2;have h6:=(h2.recs d rd r1).i3 x (by rw[r2];exact h) h0;rw[r2]at h6;exact aMr h5 h6
     ·intro d hd h0 rd hrd hc;have hd':=(ho.deps d).1 hd;have hne:d≠k:=λe=>by have:=(hnk d hd').resolve_left h0;rw[e]at this;omega
      have hrd':s.res d=some rd:=by rw[<-hrd];exact(nV hne).symm
      obtain⟨rd',r1,r2,r3⟩:=(h4 d hd).2 h0;rw[hrd']at r1;cases r1;have:=(h2.recs d rd hrd').val;rw[r2,<-h3.now]at this;exact⟨this,(ho.i5 d hd h0 rd hrd' r3).2⟩
     ·intro y hy h0 hs ry hry;have hne:y≠k:=λe=>by have:=hy.rank hB.rank h0;rw[e]at this;omega
      have hry':s.res y=some ry:=by rw[<-hry];exact(nV hne).symm
      obtain⟨d,hd,h⟩:=hy.cases';simp only[c2]at hd;have hd2:=(ho.deps d).2 hd;rcases h with rfl|h
      ·obtain⟨rd',r1,r2,r3⟩:=(h4 d hd2).2 h0;rw[hry']at r1;cases r1;exact(ho.i5 _ hd2 h0 _ hry' r3).2
      ·obtain⟨rd',r1,r2,r3⟩:=(h4 d hd2).2 h.src;rw[<-h3.now]at r2;have h5:=(h2.recs d rd' r1).i6 y (by rw[r2];exact h) h0 (by rw[r2];exact hs) ry hry';exact aMr (ho.i5 d hd2 h.src rd' r1 r3).2 h5
theorem aF1(stp:Int->Bool)(hz:∀k,rk k=0):∀(n:Nat) (act:List QK) (k:QK) (st:St),0<n->k∉act->k.1≠0->oK cp rk Good st hist->(cp k).safe (Ev cp rk hist st.now)->
  ∃o st',upd stp cp n act k st=some (o,st')/\oK cp rk Good st' hist/\Fr rk (rk k+1) st st'/\∀r,o=some r->st'.res k=some r/\r.v=st.now
 |0,_,_,_,h,_,_,_,_=>absurd h (Nat.not_lt_zero _)
 |n+1,act,k,st,h,ha,hk,hi,hsf=>by
  unfold upd;rw[if_neg ha];have hu:KM cp rk Good hist (rk k) (upd stp cp n (k::act)):=λd st' h0 hd hi'=>by rw[hz,hz]at hd;exact absurd hd (Nat.lt_irrefl 0)
  obtain⟨o,st',h1,h2,h3,h4⟩:=aCi hB hu stp hk hi hsf;refine⟨o,aFi o st',by rw[h1];rfl, ?_, ?_,λr e=> ?_⟩
  ·cases o with
   |none=>exact h2
   |some r=>exact h2.clk _
  ·cases o with
   |none=>exact h3
   |some r=>exact⟨h3.now,h3.lc,h3.cell,h3.stay,h3.high⟩
  ·obtain⟨h5,h6⟩:=h4 r e;subst e;exact⟨h5,h6⟩
end
end Go.Memo
namespace Go.Memo
section
variable{cp:QK->cR}{rk:QK->Nat}{Good:(QK->QV)->Prop}{hist:Nat->QK->qH}
theorem oK.less{st:St}(hi:oK cp rk Good st hist){f:QK->Option gU}(hf:∀q r,f q=some r->st.res q=some r)(n:Int):oK cp rk Good {st with res:=f,comps:=n} hist:=
 ⟨hi.hnow,hi.hold,hi.hlc,hi.hc,hi.good,λq r hq=>by
  have ho:=hi.recs q r (hf q r hq);exact⟨ho.q,ho.cv,ho.vn,ho.d2,ho.val,ho.deps,ho.i3,λd hd h0 rd hrd=>ho.i5 d hd h0 rd (hf d rd hrd),λy hy h0 hs ry hry=>ho.i6 y hy h0 hs ry (hf y ry hry)⟩⟩
theorem oK.init(h:Good λ_=>⟨[],[]⟩)(n:Int):oK cp rk Good ⟨0,λ_=>0,λ_=>.zero,λ_=>none,n,0⟩ (λ_ _=>.zero):=
 ⟨rfl,λ_ _ _ _=>rfl,λ_ t _ h=>absurd h (Nat.not_lt_zero t),λ_=>aMq _,λ_ _=>h,λ_ _ h=>by cases h⟩
theorem oK.set{st:St}(hi:oK cp rk Good st hist)(k:QK)(v:QV)(d:Nat)(hg:Good λq=>if q=k then v else(st.cell q).val):∃hist',oK cp rk Good (iZ k v d st) hist':=by
 unfold iZ
 by_cases hsame:(st.cell k).d=d/\(st.cell k).val=v
 ·rw[if_pos hsame];exact⟨hist,hi⟩
 rw[if_neg hsame];refine⟨λt=>if t=st.now+1 then(λq=>if q=k then⟨v,st.now+1,d⟩else st.cell q)else hist t, ?_⟩;have hh:∀t,t<=st.now->(if t=st.now+1 then(λq=>if q=k then(⟨v,st.now+1,d⟩:qH)else st.cell q)else hist t)=hist t:=λt ht=>if_neg z8;refine⟨zz,λx t ht hc=> ?_,λx t D ht hD=> ?_,λx=> ?_,λt ht=> ?_,λq r hq=> ?_⟩
 ·by_cases e:t=st.now+1
  ·simp[e]
  ·have htn:t<=st.now:=by
    have:t<=st.now+1:=ht;omega
   rw[hh t htn]
   by_cases ex:x=k
   ·have:st.now+1<=t:=by simpa[ex]using hc
    omega
   ·simp only[if_neg ex]at hc⊢;exact hi.hold x t htn hc
 ·have htn:t<=st.now:=by
   by_cases ex:x=k
   ·have:t<st.now+1:=by simpa[ex]using ht
    omega
   ·simp only[if_neg ex]at ht;have:=hi.hc x;omega
  simp only[hh t htn]at hD;show t<(if D<=max (st.cell k).d d then st.now+1 else st.lc D)
  by_cases ex:x=k
  ·subst ex
   by_cases hcx:(st.cell x).c<=t
   ·rw[hi.hold x t htn hcx]at hD;rw[if_pos z8];omega
   ·have:=hi.hlc x t D z8 hD
    split<;>omega
  ·simp only[if_neg ex]at ht;have:=hi.hlc x t D ht hD
   split<;>omega
 ·show(if x=k then(⟨v,st.now+1,d⟩:qH)else st.cell x).c<=st.now+1
  split
  ·exact aMq _
  ·exact Nat.le_succ_of_le (hi.hc x)
 ·by_cases e:t=st.now+1
  ·subst e;simp only[if_pos];have:qF (λq=>if q=k then(⟨v,st.now+1,d⟩:qH)else st.cell q)=λq=>if q=k then v else(st.cell q).val:=by
    funext q;simp only[qF];split<;>rfl
   rw[this];exact hg
  ·rw[hh t (by have:t<=st.now+1:=ht;omega)];exact hi.good t (by have:t<=st.now+1:=ht;omega)
 ·have ho:=hi.recs q r hq;have e:(if r.v=st.now+1 then(λq=>if q=k then(⟨v,st.now+1,d⟩:qH)else st.cell q)else hist r.v)=hist r.v:=hh r.v ho.vn;have eEv:Ev cp rk (λt=>if t=st.now+1 then(λq=>if q=k then(⟨v,st.now+1,d⟩:qH)else st.cell q)else hist t) r.v=Ev cp rk hist r.v:=by
   simp only[Ev,e]
  refine⟨ho.q,ho.cv,Nat.le_succ_of_le ho.vn,ho.d2,by rw[eEv];exact ho.val,by rw[eEv];exact ho.deps,by rw[eEv];simp only[e];exact ho.i3,by rw[eEv];exact ho.i5, ?_⟩;rw[eEv];intro y hy h0 hs ry hry;refine ho.i6 y hy h0 (λx hx hx0=> ?_) ry hry;have:=hs x hx hx0
  by_cases ex:x=k
  ·subst ex;have h1:st.now+1<=r.v:=by simpa using this
   have:=ho.vn;omega
  ·simpa[ex]using this
end
end Go.Memo
namespace Go.Abs
open Go.Proofs Go.Memo
abbrev eL:=Nat->Prop
theorem bU{H:aH}{id:Nat}{o:AObj}(h:H[id]? =some o)(L:aH):(H++L)[id]? =some o:=by rw[aM0 (lG h)];exact h
structure dE(F F':eL)(H H':aH):Prop where
 len:H.length<=H'.length
 same:∀id,id<H.length->¬F id->H'[id]? =H[id]?
 ids:∀id,F' id->id<H.length->F id
theorem dE.refl(F:eL)(H:aH):dE F F H H:=⟨aMq _,λ_ _ _=>rfl,λ_ h _=>h⟩
theorem dE.trans{F F1 F2:eL}{H H1 H2:aH}(a:dE F F1 H H1)(b:dE F1 F2 H1 H2):dE F F2 H H2:=
 ⟨aMr a.len b.len,λid h1 h2=>(b.same id (aMs h1 a.len) (λh=>h2 (a.ids id h h1))).trans (a.same id h1 h2),λid h1 h2=>a.ids id (b.ids id h1 (aMs h2 a.len)) h2⟩
theorem dE.of_app{F F':eL}{H H' L:aH}(a:dE F F' (H++L) H'):dE F F' H H':=
 ⟨by have:=a.len;rw[aNo]at this;omega,λid h1 h2=>by rw[a.same id (by rw[aNo];omega) h2,aM0 h1],λid h1 h2=>a.ids id h1 (by rw[aNo];omega)⟩
theorem dE.app(F:eL)(H L:aH)(hF:∀id,F id->id<H.length):dE F F H (H++L):=
 ⟨by rw[aNo];omega,λid h1 _=>aM0 h1,λ_ h _=>h⟩
theorem dE.get{F F':eL}{H H':aH}(a:dE F F' H H'){id:Nat}{o:AObj}(h:H[id]? =some o)(hn:¬F id):H'[id]? =some o/\¬F' id:=
 ⟨by rw[a.same id (lG h) hn];exact h,λh'=>hn (a.ids id h' (lG h))⟩
theorem dE.or{F F':eL}{H H':aH}(a:dE F F' H H')(p:eL):dE (λid=>F id\/p id) (λid=>F' id\/p id) H H':=
 ⟨a.len,λid h1 h2=>a.same id h1 λh=>h2 (.inl h),λid h h1=>h.elim (λh=>.inl (a.ids id h h1)) .inr⟩
theorem mn{α β γ:Type}{o:Option α}{f:α->β}{g:α->γ}(h:o.map f=none):o.map g=none:=by cases o with
 |none=>rfl
 |some v=>cases h
structure Own{σ:Type}(J:σ->eL->aH->Prop):Prop where
 fr:∀ {s F H H'},J s F H->(∀id,F id->H'[id]? =H[id]?)->J s F H'
 lt:∀ {s F H},J s F H->∀id,F id->id<H.length
theorem Own.app{σ:Type}{J:σ->eL->aH->Prop}(o:Own J){s:σ}{F:eL}{H:aH}(h:J s F H)(L:aH):J s F (H++L):=o.fr h λid hi=>aM0 (o.lt h id hi)
def zT:List PanicEntry:= [{v:=.iface 163 (.agg #[.int .i64 12]),recovered:=false}]
def qN(v:QV):PV:=.agg [.slice (v.nums.map aE) .none, .str v.text]
def zJ(c:qH):PV:=.agg [.slice (c.val.nums.map aE) .none, .str c.val.text,aE (c.c:Int),aE (c.d:Int)]
def oR(r:gU)(tl:bE)(lu:Int):List PV:= [.slice (r.val.nums.map aE) .none, .str r.val.text,aE (r.v:Int),aE (r.c:Int),aE (r.D:Int), .slice (r.deps.map dQ) tl,aE lu]
def XM(P:Program){σ:Type}(J:σ->eL->aH->Prop)(f:FuncId)(args:List PV)(F:eL)(H:aH)(o:Option PV)(s':σ):Prop:=
 nE P zT f args H (λr H'=>o=some r/\∃F',J s' F' H'/\dE F F' H H') (λH'=>o=none/\∃F',J s' F' H'/\dE F F' H H')
structure aFv(P:Program){σ:Type}(J:σ->eL->aH->Prop)(step:QK->σ->Option (Option QV×σ))(g:PV):Prop where
 own:Own J
 ex:∃f caps,g= .fn (.func f) [] caps/\bO P f=true/\
  ∀k s F H o s',step k s=some (o,s')->J s F H->XM P J f (dQ k::caps) F H (o.map qN) s'
def aEc(P:Program)(cp:QK->cR)(cf:PV)(env:List (Nat×AObj)):Prop:=
 ∃f caps,cf= .fn (.func f) [] caps/\bO P f=true/\
  ∀(σ:Type) (J:σ->eL->aH->Prop) (step:QK->σ->Option (Option QV×σ)) (g:PV),aFv P J step g->∀k s F H o s',k.1≠0->lL step (cp k) s=some (o,s')->J s F H->(∀e∈env,H[e.1]? =some e.2)->
   XM P J f (dQ k::g::caps) F H (o.map qN) s'
end Go.Abs
namespace Go.Abs
theorem bG:type_of% @dQ.eq_1:= @dQ.eq_1
theorem fY:type_of% @qN.eq_1:= @qN.eq_1
end Go.Abs
namespace Go.Proofs
open Go.RowKit Go.Abs
open Go.ChangeMaps (setBlock)
section
variable{F:Fence}{n:Nat}{P:Program}(w:World){ops:Array Oper}{rest:List Oper}{o:Oper}{a:Act}{Q:Exit->Act->World->Prop}
theorem JB(hg:o.guard=none)(m:Operand)(t:TypeId)(hop:o.op=Op.range t m)(k e:TypeId)(ht:P.underlying t=some (.map k e))(b:Nat)(es:Array MapEntry)(clock:Nat)(hm:a.eval m= .map (some b))(hb:w.heap[b]? =some (.map es clock))
  (hK:wpListIn F n P ops Q rest (a.put o.dst (.pointer (some ⟨w.heap.size,0,none⟩))) (w.alloc (.mapIter (some b) clock #[] clock))):wpListIn F n P ops Q (o::rest) a w:=by
 refine wpListIn_plain hg λK' hK'=> ?_;have hrun:=run_range_map w t k e b es clock ht hb;unfold Oper.wpIn;refine⟨by simp[Oper.about,hop], ?_⟩;rw[Oper.semAt_plain F _ _ (by rw[hop];intro c hc';cases hc')];simp[execOp,hop,hm,hrun,Result.andThen];exact hK' _ _ hK
theorem KZ(hg:o.guard=none)(it:Operand)(hop:o.op=Op.next it false)(b r clock:Nat)(es:Array MapEntry)(seen:Array Nat)(hit:a.eval it= .pointer (some ⟨r,0,none⟩))(hb:w.heap[b]? =some (.map es clock))(hr:w.heap[r]? =some (.mapIter (some b) clock seen clock))
  (hold:∀x∈es.toList,x.born<clock) (hnd:(es.toList.map (·.born)).Nodup)
  (hDone:(leftOf es seen).size=0->wpListIn F n P ops Q rest (a.put o.dst (.tuple #[.bool false])) w)
  (hMore:∀e∈(leftOf es seen).toList,∀w':World,w'.heap[b]? =some (.map es clock)->w'.heap[r]? =some (.mapIter (some b) clock (seen.push e.born) clock)->w.grownBy w' (some r)->w'.heap.size=w.heap.size->
   (Instr.entry (.pointer (some ⟨r,0,none⟩))).run P w'= .ok (.tuple #[e.key,e.val]) w'->wpListIn F n P ops Q rest (a.put o.dst (.tuple #[.bool true,e.key,e.val])) w'):wpListIn F n P ops Q (o::rest) a w:=by
 refine wpListIn_plain hg λK' hK'=> ?_;unfold Oper.wpIn;refine⟨by simp[Oper.about,hop], ?_⟩;rw[Oper.semAt_plain F _ _ (by rw[hop];intro c hc';cases hc')];have hne:r≠b:=by rintro rfl;rw[hb]at hr;cases hr
 rcases run_next_at (P:=P) w o.type r b clock clock seen es clock hr hb hold (aMq _)with⟨h0,hrun⟩| ⟨e,he,w1,hal,hrun⟩
 ·simp[execOp,hop,hit,hrun,Result.andThen];exact hK' _ _ (hDone h0)
 ·have hr1:w1.heap[r]? =some (.mapIter (some b) clock seen clock):=by rcases hal with rfl|rfl<;>exact hr
  have hb1:w1.heap[b]? =some (.map es clock):=by rcases hal with rfl|rfl<;>exact hb
  have hset:=Go.MapKept.heap_set (o':=.mapIter (some b) clock (seen.push e.born) clock) hr1;have hb':(setBlock w1 r (.mapIter (some b) clock (seen.push e.born) clock)).heap[b]? =some (.map es clock):=(hset.2 b (λe1=>hne e1.symm)).trans hb1;have hem:=(mem_left he).1;simp[execOp,hop,hit,hrun,Result.andThen];refine hK' _ _ (hMore e he _ hb' hset.1 ?_ ?_ (run_entry_at _ r b clock seen es clock e hset.1 hb' hem hnd))
  ·rcases hal with rfl|rfl<;>exact⟨rfl,rfl,rfl,by simp[setBlock],λi _ hi=>hset.2 i (λe1=>hi (by rw[e1]))⟩
  ·rcases hal with rfl|rfl<;>simp[setBlock]
end
theorem uY{w:World}{b r clock c1 c2:Nat}{es:Array MapEntry}{seen:Array Nat}(hb:w.heap[b]? =some (.map es clock))(hr:w.heap[r]? =some (.mapIter (some b) c1 seen c2)):w.rangeLeft b r=(leftOf es seen).size:=by
 simp only[World.rangeLeft,hb,hr]
set_option maxRecDepth 100000 in
set_option maxHeartbeats 4000000 in
theorem aEv(F:Fence)(n:Nat)(h66:F.fn 110)(hro:F.round=none)(hn:1<=n)(Bm b:Nat)(es:Array MapEntry)(clock:Nat)(w:World)(hBm:Bm<w.heap.size)
  (hmw:w.cell? ⟨Bm,0,none⟩=some (.map (some b))) (hbw:w.heap[b]? =some (.map es clock)) (hold:∀x∈es.toList,x.born<clock) (hnd:(es.toList.map (·.born)).Nodup) (hkeys:∀e∈es.toList,∃k,e.key=fU k):
  SeqStopsK F n Tryz.prog 110 #[.pointer (some ⟨Bm,0,none⟩)] (λx: {k:Int×Int×Int // ∃e∈es.toList,e.key=fU k}=> #[fU x.1]) KeepsWalks (λxs=>xs.length<=es.size) (λ_=>True) es.size w:=by
 intro l J Jx W hW hJ hJx hY h0;have hbl0:b<w.heap.size:=(aOk.1 hbw).1;have hb:W.heap[b]? =some (.map es clock):=(hW.block b hbl0).trans hbw;have hm:W.cell? ⟨Bm,0,none⟩=some (.map (some b)):=(hW.cell (p:=⟨Bm,0,none⟩) hBm).trans hmw;have t59:=Tryz.underlying87;have t37:=Tryz.underlying64;have a37:=Tryz.isAgg64;have z37:=Tryz.sizeOf64;have v37:=Tryz.zeroValue64;have a59:=Tryz.isAgg87;have z59:=Tryz.sizeOf87;refine callsIn_of_wp Tryz.func110 rfl h66 ?_ hro;simp only[Tryz.ntmps110,List.size_toArray,aM7,aOa,Nat.reduceAdd,Nat.reduceSub,Array.replicate_succ,Array.replicate_zero,List.push_toArray,List.append_toArray,aN7,aMl]
 gi_wp2_with (first
  | (gi_at_range;refine JB _ rfl _ 87 rfl 64 145 Tryz.underlying87 b es clock rfl hb ?_)
  |gi_in)
 try go_frame
 have hbl:b<W.heap.size:=(aOk.1 hb).1;obtain⟨W0,hW0⟩:∃W0,W.alloc (.mapIter (some b) clock #[] clock)=W0:=⟨_,rfl⟩;have hg0:W.grownBy W0 none:=by rw[<-hW0];exact World.grownBy_alloc W _ none
 have hb0:W0.heap[b]? =some (.map es clock):=(hg0.block b hbl zz).trans hb;have hr0:W0.heap[W.heap.size]? =some (.mapIter (some b) clock #[] clock):=by rw[<-hW0];exact World.alloc_heap_new W _
 rw[hW0]
 gi_loopw [] (λwr=>∃(seen:Array Nat) (ks:List {k:Int×Int×Int // ∃e∈es.toList,e.key=fU k}),wr.heap[b]? =some (.map es clock)/\wr.heap[W.heap.size]? =some (.mapIter (some b) clock seen clock)/\ks.length+(leftOf es seen).size<=es.size/\J ks wr)
  (λwr=>wr.rangeLeft b W.heap.size)
 case atStart=>
  exact⟨#[],[],hb0,hr0,by simp[leftOf,Array.size_filter_le],hJ [] W W0 none h0 hg0 (λr e=>by cases e)⟩
 case round=>
  obtain⟨seen,ks,hbR,hrR,hcs,hJs⟩:=hrel
  gi_wp2_with (first
   | (gi_at_next;refine KZ _ rfl _ rfl b W.heap.size clock es seen rfl hbR hrR hold hnd ?_ ?_)
   |gi_in)
  ·
   intro hc0
   gi_wp2
   go_end0
   exact⟨⟨_,rfl⟩, .inl ⟨ks,z8,hJs⟩⟩
  ·
   intro e he w2 hb2 hr2 hg2 hs2 hen;have he:=Array.mem_toList_iff.2 he;obtain⟨hem,_⟩:=mem_left he;obtain⟨k,hk⟩:=hkeys e hem;rw[hk]at hen⊢;unfold fU at hen⊢
   gi_wp2
   obtain⟨w3,hw3⟩:∃w3,w2.alloc (Obj.cells #[Value.int IntKind.i64 k.1,Value.int IntKind.i64 k.2.1,Value.int IntKind.i64 k.2.2] 64)=w3:=⟨_,rfl⟩;rw[hw3];have hg3:w2.grownBy w3 none:=by rw[<-hw3];exact World.grownBy_alloc w2 _ none
   have hbl2:b<w2.heap.size:=(aOk.1 hb2).1;have hrl2:W.heap.size<w2.heap.size:=(aOk.1 hr2).1;have hb3:=(hg3.block b hbl2 zz).trans hb2;have hr3:=(hg3.block _ hrl2 zz).trans hr2;have hJ2:J ks w2:=hJ ks wr w2 (some W.heap.size) hJs hg2 (λr e=>by cases e;exact⟨aMq _,_,hrR,rfl⟩);have hJ3:J ks w3:=hJ ks w2 w3 none hJ2 hg3 (λr e=>by cases e);have hlt:=left_shrinks es seen e he;obtain⟨fn,tmps,assign,body,hy,hR⟩:=hY ks ⟨k,e,hem,hk⟩ w3 hJ3 z8;unfold fU at hy;clear hw3;rw[hy]
   go_simp
   refine hR.mono ?_;rintro e W4 (⟨rfl,hJ4,hk4⟩| ⟨rfl,hJ4⟩)
   ·gi_wp2
    have hb4:=hk4.same b _ hb3 rfl;have hr4:=hk4.same _ _ hr3 rfl
    go_roundw
    case rel=>exact⟨_,ks++ [_],hb4,hr4,by simp;omega,hJ4⟩
    case measure=>rw[uY hb4 hr4,uY hbR hrR];exact hlt
   ·gi_wp2
    (try simp only[Exit.inBlock,Exit.then])
    refine bodyPost_ret (results_none rfl _ _ _) rfl ?_;exact⟨⟨_,rfl⟩, .inr ⟨_,trivial,hJ4⟩⟩
end Go.Proofs
namespace Go.Proofs
open Go.RowKit Go.Abs
abbrev KQ:=Int×Int×Int
def nN(ks:List KQ):List Value:=ks.flatMap λk=> [.int .i64 k.1, .int .i64 k.2.1, .int .i64 k.2.2]
theorem NL(ks:List KQ)(k:KQ):nN (ks++ [k])=nN ks++ [.int .i64 k.1, .int .i64 k.2.1, .int .i64 k.2.2]:=by simp[nN]
theorem Tryz.info37:(Tryz.prog.info? 64).map (λi=>(i.zero,i.size,i.bytes))=some (some (.agg #[.int .i64 0, .int .i64 0, .int .i64 0]),3,24):=by kernel_rfl
def ApI(w:World)(Bs:Nat){p:KQ->Prop}(pre:List {k:KQ // p k})(W:World):Prop:=
  ∃v,W.heap[Bs]? =some (.cells #[v] 123 (0,0))/\W.ownsRow w.heap.size 64 3 v pre.length (nN (pre.map (·.1)))/\Below w.heap.size w W
theorem CY{W W':World}{row:Option Nat}(hg:W.grownBy W' row)(hr:∀r,row=some r->∃o:Obj,W.heap[r]? =some o/\o.isCells=false){k:Nat}{o:Obj}(hk:W.heap[k]? =some o)(hc:o.isCells=true):W'.heap[k]? =some o:=
  (hg.block k (aOk.1 hk).1 (λe=>by
    obtain⟨o2,h2,h3⟩:=hr k e.symm;rw[hk]at h2;cases h2;rw[hc]at h3;cases h3)).trans hk
theorem EJ{W W':World}{row:Option Nat}{base:Nat}{e:TypeId}{size:Nat}{v:Value}{k:Nat}{xs:List Value}(h:W.ownsRow base e size v k xs)(hg:W.grownBy W' row)(hr:∀r,row=some r->∃o:Obj,W.heap[r]? =some o/\o.isCells=false):W'.ownsRow base e size v k xs:=by
  refine h.kept hg ?_;rcases h.2 with⟨rfl,_⟩| ⟨g,cap,cur,rfl,_,hgb,_⟩
  · exact .inl rfl
  · refine .inr λe'=> ?_
    obtain⟨o,ho,hw⟩:=hr g (by simpa[Value.ownBlock]using e'.symm);rw[hgb]at ho;cases ho;cases hw
theorem DG{w:World}{Bs B:Nat}{p:KQ->Prop}(hB:w.heap.size<=B):OwnFrom B (λ(pre:List {k:KQ // p k}) W=>ApI w Bs pre W):=by
  rintro s W W' row ⟨v,hv,hrow,hb⟩ hg hr;have hr':∀r,row=some r->∃o:Obj,W.heap[r]? =some o/\o.isCells=false:=λr e=>(hr r e).2;exact⟨v,CY hg hr' hv rfl,EJ hrow hg hr',hb.grown hg hb.size (λk e=>aMr hB (hr k e).1)⟩
theorem OK(W:World)(a b c:Value)(e:TypeId)(j:Nat)(u:Value)(h: [a,b,c][j]? =some u):(W.alloc (.cells #[a,b,c] e)).cell? ((⟨W.heap.size,0,none⟩:Addr).add j)=some u:=by
  have h0:=World.alloc_heap_new W (Obj.cells #[a,b,c] e);have hc:(W.alloc (.cells #[a,b,c] e)).cell? ⟨W.heap.size,j,none⟩=(#[a,b,c]:Array Value)[j]? :=by
    unfold World.cell?;simp only[h0];simp
  have ha:(⟨W.heap.size,0,none⟩:Addr).add j=⟨W.heap.size,j,none⟩:=by
    simp[Addr.add]
    try (intro h;exact h.symm)
  rw[ha,hc,<-h];simp
theorem RI{W:World}{base:Nat}{e:TypeId}{size:Nat}{v:Value}{k:Nat}{xs:List Value}(h:W.ownsRow base e size v k xs){j:Nat}{o:Obj}(hj:W.heap[j]? =some o)(hno:∀cur,o≠ .cells cur e (0,0)):some j≠v.ownBlock:=by
  rcases h.2 with⟨rfl,_⟩| ⟨g,cap,cur,rfl,_,hgb,_⟩
  · simp[Value.ownBlock]
  · intro e'
    have:g=j:=by simpa[Value.ownBlock]using e'.symm
    subst this;rw[hgb]at hj;cases hj;exact hno cur rfl
set_option maxRecDepth 100000 in
set_option maxHeartbeats 4000000 in
theorem ZZ(F:Fence)(n:Nat)(h70:F.fn 123)(hro:F.round=none)(hn:2<=n)(g:Nat)(lb:Array Value)(hFg:F.fn g)(eg:∀args w,(callFunc g args).run Tryz.prog w= .ok (.enter g args) w)(p:KQ->Prop)(N:Nat)(hN:N<=1000000)(w:World)(hseq:SeqStopsK F (n-1) Tryz.prog g lb (λx: {k:KQ // p k}=> #[fU x.1]) KeepsWalks (λxs=>xs.length<=N) (λ_=>True) N w):CallsIn F n Tryz.prog 123 #[.slice none 0 0, .func (.func g) #[] lb] w λe w'=>∃(v:Value) (ks:List {k:KQ // p k}),e= .returned v/\ks.length<=N/\w'.ownsRow w.heap.size 64 3 v ks.length (nN (ks.map (·.1)))/\Below w.heap.size w w':=by
  have h1:1<=n:=z8
  have t82:=Tryz.underlying123;have a82:=Tryz.isAgg123;have z82:=Tryz.sizeOf123;have v82:=Tryz.zeroValue123;have t37:=Tryz.underlying64;have a37:=Tryz.isAgg64;have z37:=Tryz.sizeOf64;have v37:=Tryz.zeroValue64;refine callsIn_of_wp_marks Tryz.func123 rfl h70 ?_ hro;simp only[Tryz.ntmps123,List.size_toArray,aM7,aOa,Nat.reduceAdd,Nat.reduceSub,Array.replicate_succ,Array.replicate_zero,List.push_toArray,List.append_toArray,aN7,aMl]
  gi_wp2
  obtain⟨W0,hW0⟩:∃W0,w.alloc (.cells #[.slice none 0 0] 123)=W0:=⟨_,rfl⟩;have hs0:W0.heap.size=w.heap.size+1:=by rw[<-hW0];simp
  have hv0:W0.heap[w.heap.size]? =some (.cells #[.slice none 0 0] 123 (0,0)):=by rw[<-hW0];exact World.alloc_heap_new w _
  have hb0:Below w.heap.size w W0:=by rw[<-hW0];exact(Below.refl _ w).alloc (aMq _) _
  rw[hW0];refine wpIn_rangeFunc_ownH (w0:=w) (α:= {k:KQ // p k}) (encs:=λx=> #[fU x.1]) (Kp:=KeepsWalks) (N:=N) hro h1 (gf:=g) (lb:=lb) rfl hFg eg hseq (λh k=>h.trans k) ?hKb hb0 (λ_=>rfl)
    (λpre W=>ApI w w.heap.size pre W) (λ_ _ _=>False) ?hI (λc s W W' row h _ _=>h) ?h0
    (λx a' W=>∃B5,W0.heap.size<=B5/\W.heap[B5]? =some (.cells #[.int .i64 x.1.1, .int .i64 x.1.2.1, .int .i64 x.1.2.2] 64 (0,0))/\a'= {tmps:= #[.slice none 0 0, .func (.func g) #[] lb, .pointer (some ⟨w.heap.size,0,none⟩),undef, .slice none 0 0, .pointer (some ⟨B5,0,none⟩), .func (.func g) #[] lb,fU x.1,undef,undef,undef,undef,undef],defers:= []})
    ?hAx ?hassign ?hbody ?hdone (λD c pre W _ _ h=>h.elim)
  case hKb=>exact λW l o o' _ h _ hw=>KeepsWalks.putObj _ h hw
  case hI=>exact DG z8
  case h0=>exact⟨_,hv0,⟨rfl, .inl ⟨rfl,rfl⟩⟩,hb0⟩
  case hAx=>
    rintro x a' s W W' row ⟨B5,h1,h2,h3⟩ hg hr;exact⟨B5,h1,CY hg (λr e=>(hr r e).2) h2 rfl,h3⟩
  case hassign=>
    rintro l pre ⟨x,hx⟩ W K hIp hK;simp only[fU]
    gi_wp2_with (rw[Oper.semAt_eq _ _ _ (λc h=>by cases h)];go_simp;try go_bits)
    obtain⟨v,hv,hrow,hb⟩:=id hIp;have hlt:w.heap.size<W.heap.size:=(aOk.1 hv).1;have hga:=World.grownBy_alloc W (Obj.cells #[Value.int IntKind.i64 x.1,Value.int IntKind.i64 x.2.1,Value.int IntKind.i64 x.2.2] 64) none;exact hK _ _ (KeepsFrom.of_grownBy hga (λj e=>by cases e)) (KeepsWalks.alloc _ _) (DG (aMq _) pre W _ none hIp hga (λr e=>by cases e)) ⟨W.heap.size,z8,World.alloc_heap_new W _,rfl⟩
  case hbody=>
    rintro l pre ⟨x,hx⟩ a' W hl hrec hIp ⟨B5,hB5,h5,rfl⟩ hlen;obtain⟨v,hv,hrow,hb⟩:=id hIp;obtain⟨i0,hi,hz0,hz1,hz2⟩:=info_parts Tryz.info37;have hlt:w.heap.size<W.heap.size:=(aOk.1 hv).1;have hc2:W.cell? ⟨w.heap.size,0,none⟩=some v/\W.frozen? ⟨w.heap.size,0,none⟩=false:=by constructor<;>simp[World.cell?,World.frozen?,hv]
    have hc5:W.cell? ⟨B5,0,none⟩=some (.int .i64 x.1)/\W.cell? ⟨B5,1,none⟩=some (.int .i64 x.2.1)/\W.cell? ⟨B5,2,none⟩=some (.int .i64 x.2.2):=by refine⟨?_, ?_, ?_⟩<;>simp[World.cell?,h5]
    obtain⟨c2,f2⟩:=hc2;obtain⟨c50,c51,c52⟩:=hc5;simp only[fU]
    gi_wp2_with (first
      | (gi_at_builtin;refine wpListIn_append_own _ rfl _ _ 123 rfl w.heap.size 64 i0 (.agg #[.int .i64 0, .int .i64 0, .int .i64 0]) 3 24 Tryz.underlying123 hi hz0 hz1 hz2 rfl z7 _ _ _ rfl (hrow.alloc _) ⟨W.heap.size,0,none⟩ 1 1 [.int .i64 x.1, .int .i64 x.2.1, .int .i64 x.2.2] rfl rfl (OK W _ _ _ 64) (by simp[Value.oneCell']) (by simp only[maxLen];omega) z8 (by have:=hb.size;simp;omega) ?_
         intro v' w3 hown' hg3 hnil3;have hv3:w3.heap[w.heap.size]? =some (.cells #[v] 123 (0,0)):=(hg3.block _ (by simp;omega) (RI hrow hv (λcur e=>by cases e))).trans ((Below.heap_alloc _ _ _ hlt).trans hv);have hcc3:w3.cell? ⟨w.heap.size,0,none⟩=some v/\w3.frozen? ⟨w.heap.size,0,none⟩=false:=by constructor<;>simp[World.cell?,World.frozen?,hv3]
         obtain⟨hc3,hf3⟩:=hcc3;obtain⟨g',cap',cur',rfl,hbase',hgb',hr1,hr2,hr3,hr4⟩:∃g' cap' cur',v'= .slice (some ⟨g',0,none⟩) (pre.length+1) cap'/\w.heap.size<=g'/\w3.heap[g']? =some (.cells cur' 64 (0,0))/\pre.length+1<=cap'/\cap'<=maxLen/\cur'.size=cap'*3/\cur'.toList.take ((pre.length+1)*3)=nN (pre.map (·.1))++ [.int .i64 x.1, .int .i64 x.2.1, .int .i64 x.2.2]:=by
           rcases hown'.2 with⟨_,h0⟩|h'
           · exact absurd h0 z8
           · exact h'
         go_frame)
      | (rw[Oper.semAt_eq _ _ _ (λc h=>by cases h)];go_simp;try go_bits))
    have hg3':(W.alloc (.cells #[.int .i64 x.1, .int .i64 x.2.1, .int .i64 x.2.2] 64)).grownBy w3 v.ownBlock:=hg3;obtain⟨w4,hw4⟩:∃w4,w3.setCell ⟨w.heap.size,0,none⟩ (.slice (some ⟨g',0,none⟩) (pre.length+1) cap')=w4:=⟨_,rfl⟩;rw[hw4];have hg4:w3.grownBy w4 (some w.heap.size):=by rw[<-hw4];exact grownBy_setCell' _ _ _
    have hv4:w4.heap[w.heap.size]? =some (.cells #[.slice (some ⟨g',0,none⟩) (pre.length+1) cap'] 123 (0,0)):=by rw[<-hw4];exact mD hv3
    have hk4:KeepsWalks W w4:=((KeepsWalks.alloc _ _).trans (KeepsWalks.of_grownBy hg3' λj o hj ho=>by
      rcases(hrow.alloc (.cells #[.int .i64 x.1, .int .i64 x.2.1, .int .i64 x.2.2] 64)).2 with⟨rfl,_⟩| ⟨g,cap,cur,rfl,_,hgb,_⟩
      · simp[Value.ownBlock]at hj
      · have:g=j:=by simpa[Value.ownBlock]using hj
        subst this;rw[hgb]at ho;cases ho;rfl)).trans (by rw[<-hw4];exact KeepsWalks.setCell _ _ _)
    have hb3:Below w.heap.size w w3:=(hb.alloc hb.size _).grown hg3' (by have:=hb.size;simp;omega) (λk e=>(hrow.lt k e).1);refine⟨⟨by have h1:=hg3'.size;have h2:=hg4.size;simp at h1;omega,λk o hBk hk hc=> ?_⟩,hk4,_,hv4, ?_,hb3.grown hg4 hb3.size (λk e=>by cases e;exact aMq _)⟩
    · have hkl:k<W.heap.size:=(aOk.1 hk).1
      refine(hg4.block k (by have h1:=hg3'.size;simp at h1;omega) (λe=>by cases e;omega)).trans ((hg3'.block k (by simp;omega) (RI hrow hk (λcur e=>by rw[e]at hc;cases hc))).trans ((Below.heap_alloc _ _ k hkl).trans hk))
    · have hr4:=hown'.kept hg4 (.inr (Ne.symm (RI hown' hv3 (λcur e=>by cases e))))
      rw[aN3,aNl,aOb,NL,aNo,aM7,aOa];exact hr4
  case hdone=>
    rintro D xs W hD hS ⟨v,hv,hrow,hb⟩ hK;have hc2:W.cell? ⟨w.heap.size,0,none⟩=some v/\W.frozen? ⟨w.heap.size,0,none⟩=false:=by constructor<;>simp[World.cell?,World.frozen?,hv]
    obtain⟨c2,f2⟩:=hc2
    gi_wp2
    have hgD:W.grownBy (W.putObj D (.deferred none)) (some D):=grownBy_putObj' _ _ _;refine⟨zz, .inl ⟨_,_,rfl,run_takeDeferred hK, ?_⟩⟩;exact⟨_,results_tmp rfl _ _ _,v,xs,rfl,hS,hrow.kept hgD (.inr (Ne.symm (RI hrow hK (λcur e=>by cases e)))),hb.grown hgD hb.size (λk e=>by cases e;omega)⟩
end Go.Proofs
namespace Go.Proofs
open Go.Shelf
def Tryz.laysSort_ren:Go.Shelf.Ren:=⟨fun|6=>109|15=>125|14=>124|28=>144|29=>145|20=>136|21=>137|22=>138|23=>139|24=>140|25=>141|26=>142|27=>143|46=>150|47=>151|48=>152|49=>153|50=>154|57=>157|n=>n,fun|22=>123|24=>64|25=>148|3=>3|39=>134|0=>0|53=>197|55=>199|4=>4|46=>191|45=>190|50=>110|5=>5|9=>9|66=>207|70=>211|76=>224|77=>131|n=>n,fun|n=>n⟩
theorem Tryz.laysSort:Go.Proofs.SlLaysF0.n6 Tryz.prog Tryz.laysSort_ren:= {
 mixed:=by kernel_rfl
 f6:=⟨Tryz.f109.name,z7,Tryz.func109.trans (congrArg some (by kernel_rfl))⟩
 f14:=⟨Tryz.f124.name,z7,Tryz.func124.trans (congrArg some (by kernel_rfl))⟩
 f15:=Tryz.func125.trans (congrArg some (by kernel_rfl))
 f20:=⟨Tryz.f136.name,z7,Tryz.func136.trans (congrArg some (by kernel_rfl))⟩
 f21:=⟨Tryz.f137.name,z7,Tryz.func137.trans (congrArg some (by kernel_rfl))⟩
 f22:=⟨Tryz.f138.name,z7,Tryz.func138.trans (congrArg some (by kernel_rfl))⟩
 f23:=⟨Tryz.f139.name,z7,Tryz.func139.trans (congrArg some (by kernel_rfl))⟩
 f24:=⟨Tryz.f140.name,z7,Tryz.func140.trans (congrArg some (by kernel_rfl))⟩
 f25:=⟨Tryz.f141.name,z7,Tryz.func141.trans (congrArg some (by kernel_rfl))⟩
 f26:=⟨Tryz.f142.name,z7,Tryz.func142.trans (congrArg some (by kernel_rfl))⟩
 f27:=⟨Tryz.f143.name,z7,Tryz.func143.trans (congrArg some (by kernel_rfl))⟩
 f28:=Tryz.func144.trans (congrArg some (by kernel_rfl))
 f29:=Tryz.func145.trans (congrArg some (by kernel_rfl))
 f46:=⟨Tryz.f150.name,z7,Tryz.func150.trans (congrArg some (by kernel_rfl))⟩
 f47:=Tryz.func151.trans (congrArg some (by kernel_rfl))
 f48:=Tryz.func152.trans (congrArg some (by kernel_rfl))
 f49:=⟨Tryz.f153.name,z7,Tryz.func153.trans (congrArg some (by kernel_rfl))⟩
 f50:=⟨Tryz.f154.name,z7,Tryz.func154.trans (congrArg some (by kernel_rfl))⟩
 f57:=⟨Tryz.f157.name,z7,Tryz.func157.trans (congrArg some (by kernel_rfl))⟩
 t0:=Tryz.underlying0
 a0:=Tryz.isAgg0
 z0:=Tryz.sizeOf0
 v0:=Tryz.zeroValue0
 t3:=Tryz.underlying3
 a3:=Tryz.isAgg3
 z3:=Tryz.sizeOf3
 v3:=Tryz.zeroValue3
 t4:=Tryz.underlying4
 a4:=Tryz.isAgg4
 z4:=Tryz.sizeOf4
 v4:=Tryz.zeroValue4
 t5:=Tryz.underlying5
 a5:=Tryz.isAgg5
 z5:=Tryz.sizeOf5
 v5:=Tryz.zeroValue5
 t9:=Tryz.underlying9
 a9:=Tryz.isAgg9
 z9:=Tryz.sizeOf9
 v9:=Tryz.zeroValue9
 t22:=Tryz.underlying123
 a22:=Tryz.isAgg123
 z22:=Tryz.sizeOf123
 v22:=Tryz.zeroValue123
 t25:=Tryz.underlying148
 a25:=Tryz.isAgg148
 z25:=Tryz.sizeOf148
 v25:=Tryz.zeroValue148
 t39:=Tryz.underlying134
 a39:=Tryz.isAgg134
 z39:=Tryz.sizeOf134
 v39:=Tryz.zeroValue134
 t45:=Tryz.underlying190
 a45:=Tryz.isAgg190
 z45:=Tryz.sizeOf190
 v45:=Tryz.zeroValue190
 t46:=Tryz.underlying191
 a46:=Tryz.isAgg191
 z46:=Tryz.sizeOf191
 v46:=Tryz.zeroValue191
 t50:=Tryz.underlying110
 a50:=Tryz.isAgg110
 z50:=Tryz.sizeOf110
 v50:=Tryz.zeroValue110
 t53:=Tryz.underlying197
 a53:=Tryz.isAgg197
 z53:=Tryz.sizeOf197
 v53:=Tryz.zeroValue197
 t55:=Tryz.underlying199
 a55:=Tryz.isAgg199
 z55:=Tryz.sizeOf199
 v55:=Tryz.zeroValue199
 t66:=Tryz.underlying207
 a66:=Tryz.isAgg207
 z66:=Tryz.sizeOf207
 v66:=Tryz.zeroValue207
 t70:=Tryz.underlying211
 a70:=Tryz.isAgg211
 z70:=Tryz.sizeOf211
 v70:=Tryz.zeroValue211
 t76:=Tryz.underlying224
 a76:=Tryz.isAgg224
 z76:=Tryz.sizeOf224
 v76:=Tryz.zeroValue224
 t77:=Tryz.underlying131
 a77:=Tryz.isAgg131
 z77:=Tryz.sizeOf131
 v77:=Tryz.zeroValue131}
end Go.Proofs
namespace Go.Proofs
open Go.Shelf Go.RowKit Go.Lib Go.Sort Go.Abs
abbrev KV:=Int×Int×Int
theorem wD{P:Program}{t e:TypeId}(he:rC P t=some e){w:World}{mb clk:Nat}{ms:List MapEntry}(hb:w.heap[mb]? =some (.map ms.toArray clk)){V:cG}{es:List GE}(hg:kH V ms es)(n:KV){p:PV}(hp:gP es n=some p):
  ∃val,(Instr.lookup t (.map (some mb)) (fU n) false).run P w= .ok val w/\aQ V val p:=by
 obtain⟨kt,fa,fb,fc,ht,K⟩:=rL he;unfold gP at hp;rcases oV K w n hg with⟨f1,f2⟩| ⟨i,v,bo,q,f1,f2,f3⟩
 ·rw[f1]at hp;cases hp
 ·rw[f1]at hp;injection hp with hp;subst hp;exact⟨v,by simp only[Instr.lookup,aM9,aP ht,fW hb,mF K,aNa,aNc,List.toList_toArray,f2,aNh,if_false],f3⟩
theorem aJg(W:World)(a b:Obj)(n:Nat):((W.alloc a).alloc b).drewN n=grow (W.drewN n) #[a,b]:=by
 have:(W.heap.push a).push b=W.heap++ #[a,b]:=by
  apply Array.ext';simp only[Array.toList_push,Array.toList_append,aOe];rfl
 exact congrArg (λh=>({W with heap:=h,drawn:=W.drawn+n}:World)) this
set_option maxRecDepth 100000 in
set_option maxHeartbeats 4000000 in
theorem aJe(W:World)(Bd db mb:Nat)(x y:KV)(rx ry:Nat)(lx ly:Int)(hmb:mb<W.heap.size)(c1:W.cell? ⟨Bd,0,none⟩=some (.pointer (some ⟨db,0,none⟩)))(c2:W.cell? ⟨db,2,none⟩=some (.map (some mb)))
  (hlx:∀W':World,W'.heap[mb]? =W.heap[mb]? ->(Instr.lookup 87 (.map (some mb)) (fU x) false).run Tryz.prog W'= .ok (.pointer (some ⟨rx,0,none⟩)) W')
  (hly:∀W':World,W'.heap[mb]? =W.heap[mb]? ->(Instr.lookup 87 (.map (some mb)) (fU y) false).run Tryz.prog W'= .ok (.pointer (some ⟨ry,0,none⟩)) W')
  (c3:W.cell? ⟨rx,6,none⟩=some (.int .i64 lx)) (c4:W.cell? ⟨ry,6,none⟩=some (.int .i64 ly)):
  Calls Tryz.prog 86 #[fU x,fU y, .pointer (some ⟨Bd,0,none⟩)] W λe w'=>e= .returned (.int .i64 (Go.RowKit.wrap64 (lx-ly)))/\∃q os',w'=grow (W.drewN q) os':=by
 have t28:=Tryz.underlying61;have a28:=Tryz.isAgg61;have z28:=Tryz.sizeOf61;have v28:=Tryz.zeroValue61;have t37:=Tryz.underlying64;have a37:=Tryz.isAgg64;have z37:=Tryz.sizeOf64;have v37:=Tryz.zeroValue64;have t59:=Tryz.underlying87;have a59:=Tryz.isAgg87;have z59:=Tryz.sizeOf87;have v59:=Tryz.zeroValue87;have t62:=Tryz.underlying90;have a62:=Tryz.isAgg90;have z62:=Tryz.sizeOf90;have v62:=Tryz.zeroValue90;have t84:=Tryz.underlying147;have a84:=Tryz.isAgg147;have z84:=Tryz.sizeOf147;have v84:=Tryz.zeroValue147;have t85:=Tryz.underlying145;have a85:=Tryz.isAgg145;have z85:=Tryz.sizeOf145;have v85:=Tryz.zeroValue145;have t3:=Tryz.underlying3;have a3:=Tryz.isAgg3;have z3:=Tryz.sizeOf3;have v3:=Tryz.zeroValue3;unfold fU at hlx hly⊢
 go_enter Tryz.func86,Tryz.ntmps86
 go_wp2
 obtain⟨W2,hW2⟩:∃W2,(W.alloc (Obj.cells #[Value.int IntKind.i64 x.1,Value.int IntKind.i64 x.2.1,Value.int IntKind.i64 x.2.2] 64)).alloc (Obj.cells #[Value.int IntKind.i64 y.1,Value.int IntKind.i64 y.2.1,Value.int IntKind.i64 y.2.2] 64)=W2:=⟨_,rfl⟩;rw[hW2];have hb2:Below W.heap.size W W2:=by rw[<-hW2];exact((Below.refl _ W).alloc (aMq _) _).alloc zz _
 have d1:=(hb2.cell (p:=⟨Bd,0,none⟩) (cell?_lt c1)).trans c1;have d2:=(hb2.cell (p:=⟨db,2,none⟩) (cell?_lt c2)).trans c2;have d3:=(hb2.cell (p:=⟨rx,6,none⟩) (cell?_lt c3)).trans c3;have d4:=(hb2.cell (p:=⟨ry,6,none⟩) (cell?_lt c4)).trans c4;have hx2:W2.heap[W.heap.size]? =some (Obj.cells #[Value.int IntKind.i64 x.1,Value.int IntKind.i64 x.2.1,Value.int IntKind.i64 x.2.2] 64):=by rw[<-hW2];exact(Below.heap_alloc _ _ _ zz).trans (World.alloc_heap_new W _)
 have hy2:W2.heap[W.heap.size+1]? =some (Obj.cells #[Value.int IntKind.i64 y.1,Value.int IntKind.i64 y.2.1,Value.int IntKind.i64 y.2.2] 64):=by
  rw[<-hW2];have:=World.alloc_heap_new (W.alloc (Obj.cells #[Value.int IntKind.i64 x.1,Value.int IntKind.i64 x.2.1,Value.int IntKind.i64 x.2.2] 64)) (Obj.cells #[Value.int IntKind.i64 y.1,Value.int IntKind.i64 y.2.1,Value.int IntKind.i64 y.2.2] 64);simpa using this
 have x0:W2.cell? ⟨W.heap.size,0,none⟩=some (.int .i64 x.1):=by simp[World.cell?,hx2]
 have x1:W2.cell? ⟨W.heap.size,1,none⟩=some (.int .i64 x.2.1):=by simp[World.cell?,hx2]
 have x2:W2.cell? ⟨W.heap.size,2,none⟩=some (.int .i64 x.2.2):=by simp[World.cell?,hx2]
 have y0:W2.cell? ⟨W.heap.size+1,0,none⟩=some (.int .i64 y.1):=by simp[World.cell?,hy2]
 have y1:W2.cell? ⟨W.heap.size+1,1,none⟩=some (.int .i64 y.2.1):=by simp[World.cell?,hy2]
 have y2:W2.cell? ⟨W.heap.size+1,2,none⟩=some (.int .i64 y.2.2):=by simp[World.cell?,hy2]
 have hm2:W2.heap[mb]? =W.heap[mb]? :=hb2.block mb hmb;have lx2:∀n,_:=λn:Nat=>hlx (W2.drewN n) hm2;have ly2:∀n,_:=λn:Nat=>hly (W2.drewN n) hm2;have hfin:∀n,∃q os',W2.drewN n=grow (W.drewN q) os':=λn=>⟨n, #[Obj.cells #[Value.int IntKind.i64 x.1,Value.int IntKind.i64 x.2.1,Value.int IntKind.i64 x.2.2] 64,Obj.cells #[Value.int IntKind.i64 y.1,Value.int IntKind.i64 y.2.1,Value.int IntKind.i64 y.2.2] 64],by rw[<-hW2];exact aJg W _ _ n⟩;clear hW2 hlx hly
 go_quiet (fail)
 go_wp2
 refine bodyPost_ret (results_tmp rfl _ _ _) rfl ?_;exact⟨rfl,hfin nq⟩
end Go.Proofs
namespace Go.Proofs
open Go.RowKit Go.Abs Go.Shelf Go.Lib Go.Sort
set_option maxRecDepth 100000 in
set_option maxHeartbeats 2000000 in
theorem TU(g:Nat)(lb:Array Value)(eg:∀args w,(callFunc g args).run Tryz.prog w= .ok (.enter g args) w)(p:KQ->Prop)(N:Nat)(hN:N<=1000000)(w:World)
  (hseq:SeqStopsK Fence.wide 2 Tryz.prog g lb (λx: {k:KQ // p k}=> #[fU x.1]) KeepsWalks (λxs=>xs.length<=N) (λ_=>True) N w):
  Calls Tryz.prog 108 #[.func (.func g) #[] lb] w λe w'=>∃(v:Value) (ks:List {k:KQ // p k}),e= .returned v/\ks.length<=N/\w'.ownsRow w.heap.size 64 3 v ks.length (nN (ks.map (·.1)))/\Below w.heap.size w w':=by
 refine(callsIn_wide (n:=4)).1 ?_;refine callsIn_of_wp Tryz.func108 rfl trivial ?_ rfl;have h70:Fence.wide.fn 123:=trivial;simp only[Tryz.ntmps108,List.size_toArray,aM7,aOa,Nat.reduceAdd,Nat.reduceSub,Array.replicate_succ,Array.replicate_zero,List.push_toArray,List.append_toArray,aN7,aMl]
 gi_wp2_with (gi_at_call 123;refine(ZZ Fence.wide 3 trivial rfl z8 g lb trivial eg p N hN _ hseq).mono ?_;rintro e w' ⟨v,ks,rfl,h1,h2,h3⟩)
 go_ret
 exact⟨v,ks,rfl,h1,h2,h3⟩
theorem uO{V:cG}:∀ {ms:List MapEntry} {es:List GE},kH V ms es->∀e∈ms,∃x∈es,e.key=fU x.2.1
 | [],[],_,e,he=>by cases he
 |m::ms,x::es,h,e,he=>by
  obtain⟨h1,h2,h3,h4⟩:=h;rcases aN2.1 he with rfl|he
  ·exact⟨x,zz,h2⟩
  ·obtain⟨y,hy,hk⟩:=uO h4 e he;exact⟨y,aOg _ hy,hk⟩
theorem MA{x y:KQ}(h:fU x=fU y):x=y:=by
 obtain⟨a,b,c⟩:=x;obtain⟨a',b',c'⟩:=y;simp only[fU,Value.agg.injEq]at h;have:=congrArg Array.toList h;simp at this;obtain⟨rfl,rfl,rfl⟩:=this;rfl
abbrev KA(ms:List MapEntry):= {k:KQ // ∃e∈ms.toArray.toList,e.key=fU k}
def cfK{ms:List MapEntry}(lu:KA ms->Int)(x y:KA ms):Int:=wrap64 (lu x-lu y)
theorem aLc{ms:List MapEntry}{lu:KA ms->Int}(h:∀x,0<=lu x/\lu x<4611686018427387904):SWO (ltOf (cfK lu)) where
 irrefl x:=by unfold ltOf cfK wrap64;rw[decide_eq_false_iff_not];omega
 trans x y z h1 h2:=by
  unfold ltOf cfK wrap64 at*;rw[decide_eq_true_eq]at*;have:=h x;have:=h y;have:=h z;omega
 ntrans x y z h1 h2:=by
  unfold ltOf cfK wrap64 at*;rw[decide_eq_false_iff_not]at*;have:=h x;have:=h y;have:=h z;omega
def uQ{ms:List MapEntry}(x:KA ms):List Value:= [.int .i64 x.1.1, .int .i64 x.1.2.1, .int .i64 x.1.2.2]
theorem vY{α:Type}[Inhabited α]{enc:α->List Value}{k:Nat}{w:World}{blk n:Nat}{d':Array α}{os:Array Obj}{x:Nat}(hx:x<w.heap.size)(hne:x≠blk):(sortWorldK enc k w blk 0 n d' os).heap[x]? =w.heap[x]? :=by
 show((w.heap.modify blk (onCells (putCells id 0 (flatK enc k d'))))++os)[x]? =_;rw[Array.getElem?_append_left (by simpa using hx),Array.getElem?_modify,if_neg (Ne.symm hne)]
theorem WL{α:Type}[Inhabited α]{enc:α->List Value}{k:Nat}{w:World}{blk n:Nat}{d':Array α}{os:Array Obj}{arr:Array Value}{elem:TypeId}(h1:w.heap[blk]? =some (.cells arr elem (0,0))):
  (sortWorldK enc k w blk 0 n d' os).heap[blk]? =some (.cells (putCells id 0 (flatK enc k d') arr) elem (0,0)):=by
 have hlt:blk<w.heap.size:=(aOk.1 h1).1;show((w.heap.modify blk (onCells (putCells id 0 (flatK enc k d'))))++os)[blk]? =_;rw[Array.getElem?_append_left (by simpa using hlt),Array.getElem?_modify,if_pos rfl,h1];rfl
theorem AS:∀(ks:List KQ) (i j:Nat) (hi:i<ks.length) (hj:j<3),(nN ks)[i*3+j]? = [Value.int .i64 ks[i].1, .int .i64 ks[i].2.1, .int .i64 ks[i].2.2][j]?
 |k::ks,0,j,_,hj=>by
  simp only[nN,List.flatMap_cons,Nat.zero_mul,aNn,aMn];rw[aM0 (by simpa using hj)]
 |k::ks,i+1,j,hi,hj=>by
  have:(i+1)*3+j=3+(i*3+j):=z8
  simp only[nN,List.flatMap_cons,this];rw[aM1 zz];have:=AS ks i j (by simpa using hi) hj;simpa[nN]using this
end Go.Proofs
namespace Go.Proofs
open Go.RowKit Go.Abs Go.Shelf Go.Lib Go.Sort
structure JF(w:World)(Bd db mb clk:Nat)(ms:List MapEntry)(V:cG)(es:List GE):Prop where
 c1:w.cell? ⟨Bd,0,none⟩=some (.pointer (some ⟨db,0,none⟩))
 c2:w.cell? ⟨db,2,none⟩=some (.map (some mb))
 hb:w.heap[mb]? =some (.map ms.toArray clk)
 hg:kH V ms es
 rcs:∀x∈es,∃v,gP es x.2.1=some v/\∃rb lu,(∀u,aQ V u v->u= .pointer (some ⟨rb,0,none⟩))/\w.cell? ⟨rb,6,none⟩=some (.int .i64 lu)/\0<=lu/\lu<4611686018427387904
theorem JF.below{w w':World}{Bd db mb clk:Nat}{ms:List MapEntry}{V:cG}{es:List GE}(h:JF w Bd db mb clk ms V es)(hb:∀k,k<w.heap.size->w'.heap[k]? =w.heap[k]?):JF w' Bd db mb clk ms V es:=by
 have hc:∀ {p:Addr} {v:Value},w.cell? p=some v->w'.cell? p=some v:=λ{p v} hp=>by
  have:=hb p.block (cell?_lt hp);unfold World.cell? at hp⊢;rw[this];exact hp
 refine⟨hc h.c1,hc h.c2,(hb mb (aOk.1 h.hb).1).trans h.hb,h.hg,λx hx=> ?_⟩;obtain⟨v,h1,rb,lu,h2,h3,h4⟩:=h.rcs x hx;exact⟨v,h1,rb,lu,h2,hc h3,h4⟩
theorem JF.look{w:World}{Bd db mb clk:Nat}{ms:List MapEntry}{V:cG}{es:List GE}(h:JF w Bd db mb clk ms V es)(x:KA ms):
  ∃q:Nat×Int,(∀W':World,W'.heap[mb]? =w.heap[mb]? ->(Instr.lookup 87 (.map (some mb)) (fU x.1) false).run Tryz.prog W'= .ok (.pointer (some ⟨q.1,0,none⟩)) W')/\w.cell? ⟨q.1,6,none⟩=some (.int .i64 q.2)/\0<=q.2/\q.2<4611686018427387904:=by
 obtain⟨k,e,he,hk⟩:=x;obtain⟨y,hy,hk2⟩:=uO h.hg e (by simpa using he);have hky:k=y.2.1:=MA (hk.symm.trans hk2);subst hky;obtain⟨v,h1,rb,lu,h2,h3,h4⟩:=h.rcs y hy;refine⟨(rb,lu),λW' hW=> ?_,h3,h4⟩;obtain⟨val,h5,h6⟩:=wD KE (hW.trans h.hb) h.hg y.2.1 h1;rw[h2 val h6]at h5;exact h5
set_option maxHeartbeats 1000000 in
theorem aGy{w:World}{Bd db mb clk:Nat}{ms:List MapEntry}{V:cG}{es:List GE}(h:JF w Bd db mb clk ms V es)(g cap:Nat)(cur:Array Value)(ks:List (KA ms))(hne:ks≠ [])(hg:w.heap[g]? =some (.cells cur 64 (0,0)))(hgo:g≠Bd/\g≠db/\g≠mb)(hrg:∀x∈es,∀v,gP es x.2.1=some v->∀rb,(∀u,aQ V u v->u= .pointer (some ⟨rb,0,none⟩))->g≠rb)
  (hl:ks.length<=1000000) (hsz:ks.length*3<=cur.size) (hcells:cur.toList.take (ks.length*3)=nN (ks.map (·.1))):
  Calls Tryz.prog 109 #[.slice (some ⟨g,0,none⟩) ks.length cap, .func (.func 86) #[] #[.pointer (some ⟨Bd,0,none⟩)]] w λe w'=>e= .returned (.tuple #[])/\∃(ks':List (KA ms)) (cur':Array Value),ks'.length=ks.length/\w'.heap[g]? =some (.cells cur' 64 (0,0))/\ks.length*3<=cur'.size/\
   (∀i j,(hi:i<ks'.length)->j<3->cur'[i*3+j]? =(uQ ks'[i])[j]?)/\w'.os=w.os/\w'.tape=w.tape/\w'.output=w.output/\w.heap.size<=w'.heap.size/\∀x,x<w.heap.size->x≠g->w'.heap[x]? =w.heap[x]? :=by
 obtain⟨k0,hk0⟩:∃k0,k0∈ks:=by
  cases ks with
  |nil=>exact(hne rfl).elim
  |cons k _=>exact⟨k,zz⟩
 haveI:Inhabited (KA ms):=⟨k0⟩
 obtain⟨q,hq⟩:=Classical.skolem.1 h.look;have hswo:SWO (ltOf (cfK λx=>(q x).2)):=aLc λx=>(hq x).2.2;have hlt:g<w.heap.size:=(aOk.1 hg).1;have hds:ks.toArray.size=ks.length:=zz
 have hcell:∀i j,(hi:i<ks.length)->j<3->cur[i*3+j]? =(uQ ks[i])[j]? :=λi j hi hj=>by
  have h1:=AS (ks.map (·.1)) i j (by simpa using hi) hj;have h2:cur.toList[i*3+j]? =(cur.toList.take (ks.length*3))[i*3+j]? :=by
   rw[List.getElem?_take];simp;omega
  rw[hcells,h1]at h2;rw[<-aNk,h2];simp[uQ]
 have hholds:HoldsK uQ 3 w g 0 ks.toArray:=by
  intro j hj;rw[size_flatK,hds]at hj;have hd:j/3<ks.length:=z8
  have hm:j%3<3:=Nat.mod_lt _ z8;have hj3:j/3*3+j%3=j:=z8
  have hc:=hcell (j/3) (j%3) hd hm;rw[hj3]at hc;constructor
  ·rw[get_flatK _ _ _ _ (by rw[hds];exact hj)];unfold World.cell?;simp only[aNn,hg];rw[show(none:Option Nat).isSome=false from rfl];simp only[aNh,if_false,_root_.id];have e1:ks.toArray[j/3]! =ks[j/3]:=by simp[hd]
   rw[e1,hc];have hl3:j%3<(uQ ks[j/3]).length:=by simpa[uQ]using hm
   rw[aNi hl3];simp[hl3]
  ·unfold World.frozen?;simp only[hg];simp
 have hcw:∀ {m:Nat} {os:Array Obj} {dk:Array (KA ms)} {p:Addr} {v:Value},p.block≠g->w.cell? p=some v->(sortWorldK uQ 3 w g 0 m dk os).cell? p=some v:=λ{m os dk p v} hp hv=>by
  have:=vY (enc:=uQ) (k:=3) (n:=m) (d':=dk) (os:=os) (cell?_lt hv) hp;unfold World.cell? at hv⊢;rw[this];exact hv
 have hmb:mb<w.heap.size:=(aOk.1 h.hb).1;have hqg:∀x:KA ms,(q x).1≠g:=λx e=>by
  obtain⟨k,e1,he,hk⟩:=x;obtain⟨y,hy,hk2⟩:=uO h.hg e1 (by simpa using he);have hky:k=y.2.1:=MA (hk.symm.trans hk2);subst hky;obtain⟨v,h1,rb,lu,h2,h3,h4⟩:=h.rcs y hy;have h5:=(hq ⟨y.2.1,e1,he,hk⟩).1 w rfl;obtain⟨val,h6,h7⟩:=wD KE h.hb h.hg y.2.1 h1;rw[h2 val h7]at h6;rw[h6]at h5;simp at h5;exact hrg y hy v h1 rb h2 (e.symm.trans h5.symm)
 have hcmp:CmpLays Tryz.prog 86 #[.pointer (some ⟨Bd,0,none⟩)] uQ 3 (cfK λx=>(q x).2) g 0 ks.toArray.size w:=λm os dk hs x y=>
  have hmx:(sortWorldK uQ 3 w g 0 m dk os).heap[mb]? =w.heap[mb]? :=vY hmb (Ne.symm hgo.2.2)
  aJe (sortWorldK uQ 3 w g 0 m dk os) Bd db mb x.1 y.1 (q x).1 (q y).1 (q x).2 (q y).2
   (aOk.1 (hmx.trans h.hb)).1 (hcw (Ne.symm hgo.1) h.c1) (hcw (Ne.symm hgo.2.1) h.c2) (λW' hW=>(hq x).1 W' (hW.trans hmx)) (λW' hW=>(hq y).1 W' (hW.trans hmx)) (hcw (hqg x) (hq x).2.1) (hcw (hqg y) (hq y).2.1)
 have hs:=AnyQ.slices_SortFunc Tryz.laysSort 3 Tryz.isAgg64 Tryz.sizeOf64 uQ (λ_=>rfl) (λx v hv=>by simp[uQ]at hv;rcases hv with rfl|rfl|rfl<;>rfl) (cfK λx=>(q x).2) hswo 86 #[.pointer (some ⟨Bd,0,none⟩)] g 0 cap ks.toArray w
  (enters_of Tryz.func86 (by kernel_rfl) rfl) hcmp hholds hlt (by rw[hds];omega)
 rw[hds]at hs;refine hs.mono ?_;rintro e w' ⟨rfl,d',n,os,⟨hp1, -, -⟩, -,rfl⟩;rw[hds]at hp1;refine⟨rfl,d'.toList,_,by simpa using hp1,WL hg,by simp only[putCells,Array.size_mapIdx];exact hsz,λi j hi hj=> ?_,rfl,rfl,rfl, ?_,λx hx hxg=>vY hx hxg⟩
 ·have hi2:i<d'.size:=by simpa using hi
  have hlt2:i*3+j<cur.size:=z8
  unfold putCells;rw[Array.getElem?_mapIdx,aMy hlt2];simp only[aM6,size_flatK,aNs,true_and,aNn,Nat.sub_zero,_root_.id];rw[if_pos z8,get_flatK _ _ _ _ z8,show(i*3+j) /3=i by omega,show(i*3+j)%3=j by omega,getElem!_pos d' i hi2];have:j<(uQ d'[i]).length:=by simpa[uQ]using hj
  simp[this,aNi]
 ·show w.heap.size<=((w.heap.modify g _)++os).size;simp
end Go.Proofs
namespace Go.Proofs
open Go.RowKit Go.Abs Go.Shelf Go.Lib Go.Sort
def HV(base:Nat)(v:Value)(ks:List KQ)(w:World):Prop:=
 (v= .slice none 0 0/\ks= [])\/∃g cap cur,v= .slice (some ⟨g,0,none⟩) ks.length cap/\base<=g/\w.heap[g]? =some (.cells cur 64 (0,0))/\ks.length<=cap/\cap<=maxLen/\
  ∀i j,(hi:i<ks.length)->j<3->cur[i*3+j]? = [Value.int .i64 ks[i].1, .int .i64 ks[i].2.1, .int .i64 ks[i].2.2][j]?
theorem aBp{w w1:World}{Bd db mb clk:Nat}{ms:List MapEntry}{V:cG}{es:List GE}(h:JF w Bd db mb clk ms V es)(hb:Below w.heap.size w w1)(v:Value)(ks:List (KA ms))(hlen:ks.length<=1000000)(hrow:w1.ownsRow w.heap.size 64 3 v ks.length (nN (ks.map (·.1)))):
  Calls Tryz.prog 109 #[v, .func (.func 86) #[] #[.pointer (some ⟨Bd,0,none⟩)]] w1 λe w'=>e= .returned (.tuple #[])/\Below w.heap.size w w'/\∃ks':List KQ,ks'.length=ks.length/\HV w.heap.size v ks' w':=by
 have hC:=h.below hb.block
 by_cases hne:ks= []
 ·subst hne;rcases hrow.2 with⟨rfl,_⟩| ⟨g,cap,cur,rfl,hbg,hg,h1,h2,h3,h4⟩
  ·refine(AnyF.slices_SortFunc_none {Tryz.laysSort with} none 0 _ w1).mono ?_;rintro e w' ⟨rfl,rfl⟩;exact⟨rfl,hb,[],rfl, .inl ⟨rfl,rfl⟩⟩
  ·refine(AnyF.slices_SortFunc_none {Tryz.laysSort with} (some ⟨g,0,none⟩) cap _ w1).mono ?_;rintro e w' ⟨rfl,rfl⟩;exact⟨rfl,hb,[],rfl, .inr ⟨g,cap,cur,rfl,hbg,hg,h1,h2,λi j hi=>absurd hi zz⟩⟩
 ·rcases hrow.2 with⟨_,h0⟩| ⟨g,cap,cur,rfl,hbg,hg,h1,h2,h3,h4⟩
  ·exact(hne (List.eq_nil_of_length_eq_zero h0)).elim
  ·have hlo:∀ {p:Addr} {u:Value},w.cell? p=some u->g≠p.block:=λhp e=>by have:=cell?_lt hp;omega
   refine(aGy hC g cap cur ks hne hg ⟨hlo h.c1,hlo h.c2,λe=>by have:=(aOk.1 h.hb).1;omega⟩ (λx hx v hv rb hrb=> ?_) hlen z8 h4).mono ?_
   ·obtain⟨v2,q1,rb2,lu,q2,q3,_⟩:=h.rcs x hx;rw[hv]at q1;cases q1;obtain⟨val,q4,q5⟩:=wD KE h.hb h.hg x.2.1 hv;have e1:=hrb val q5;have e2:=q2 val q5;rw[e1]at e2;simp at e2;subst e2;exact hlo q3
   ·rintro e w' ⟨rfl,ks',cur',hl',hg',hs',hc',ho,ht,hou,hsz,hot⟩;refine⟨rfl,⟨ho.trans hb.os,ht.trans hb.tape,hou.trans hb.output,aMr hb.size hsz,λk hk=>(hot k (aMs hk hb.size) z8).trans (hb.block k hk)⟩,ks'.map (·.1),by simpa using hl', .inr ⟨g,cap,cur',by simp[hl'],hbg,hg',by simp[hl'];omega,h2,λi j hi hj=> ?_⟩⟩;have:=hc' i j (by simpa using hi) hj;rw[this];simp[uQ]
set_option maxRecDepth 100000 in
set_option maxHeartbeats 2000000 in
theorem YF{w:World}{Bm Bd db mb clk:Nat}{ms:List MapEntry}{V:cG}{es:List GE}(h:JF w Bd db mb clk ms V es)(hBm:w.cell? ⟨Bm,0,none⟩=some (.map (some mb)))(hlen:ms.length<=1000000)(hold:∀x∈ms.toArray.toList,x.born<clk)(hnd:(ms.toArray.toList.map (·.born)).Nodup):
  Calls Tryz.prog 84 #[.func (.func 110) #[] #[.pointer (some ⟨Bm,0,none⟩)], .func (.func 86) #[] #[.pointer (some ⟨Bd,0,none⟩)]] w λe w'=>∃(v:Value) (ks:List KQ),e= .returned v/\ks.length<=ms.length/\Below w.heap.size w w'/\HV w.heap.size v ks w':=by
 have e64:=enters_of Tryz.func108 (by kernel_rfl) rfl;have e65:=enters_of Tryz.func109 (by kernel_rfl) rfl;have hkeys:∀e∈ms.toArray.toList,∃k,e.key=fU k:=λe he=>by
  obtain⟨y,_,hk⟩:=uO h.hg e (by simpa using he);exact⟨_,hk⟩
 have hseq:=aEv Fence.wide 2 trivial rfl z8 Bm mb ms.toArray clk w (cell?_lt hBm) hBm h.hb hold hnd hkeys;have hcol:=TU 110 #[.pointer (some ⟨Bm,0,none⟩)] (enters_of Tryz.func110 (by kernel_rfl) rfl) (λk=>∃e∈ms.toArray.toList,e.key=fU k) ms.toArray.size (by simpa using hlen) w hseq
 go_enter Tryz.func84,Tryz.ntmps84
 go_wp2_with (first
  | (go_at_call 108;refine hcol.mono ?_;rintro e w1 ⟨v,ks,rfl,h1,h2,h3⟩;have hsrt:=aBp h h3 v ks (by simp at h1;omega) h2)
  | (go_at_call 109;refine hsrt.mono ?_;rintro e w2 ⟨rfl,h4,ks',h5,h6⟩))
 go_ret
 exact⟨v,ks',rfl,by simp at h1;omega,h4,h6⟩
end Go.Proofs
namespace Go.Proofs
open Go.RowKit Go.Abs Go.Shelf Go.Lib Go.Sort
set_option maxRecDepth 100000 in
set_option maxHeartbeats 1000000 in
theorem aGt(mb:Nat)(W:World):Calls Tryz.prog 85 #[.map (some mb)] W λe w'=>e= .returned (.func (.func 110) #[] #[.pointer (some ⟨W.heap.size,0,none⟩)])/\w'=W.alloc (.cells #[.map (some mb)] 87):=by
 have t59:=Tryz.underlying87;have a59:=Tryz.isAgg87;have z59:=Tryz.sizeOf87;have v59:=Tryz.zeroValue87
 go_enter Tryz.func85,Tryz.ntmps85
 go_wp2
 go_ret
 exact⟨rfl,rfl⟩
set_option maxRecDepth 100000 in
set_option maxHeartbeats 2000000 in
theorem aAk{w:World}{db mb clk:Nat}{ms:List MapEntry}{V:cG}{es:List GE}(h:∀w' Bd,(∀k,k<w.heap.size->w'.heap[k]? =w.heap[k]?)->w'.cell? ⟨Bd,0,none⟩=some (.pointer (some ⟨db,0,none⟩))->JF w' Bd db mb clk ms V es)(hm:w.cell? ⟨db,2,none⟩=some (.map (some mb)))(hlen:ms.length<=1000000)(hold:∀x∈ms.toArray.toList,x.born<clk)(hnd:(ms.toArray.toList.map (·.born)).Nodup):
  Calls Tryz.prog 66 #[.pointer (some ⟨db,0,none⟩)] w λe w'=>∃(v:Value) (ks:List KQ),e= .returned v/\ks.length<=ms.length/\Below w.heap.size w w'/\HV w.heap.size v ks w':=by
 have t28:=Tryz.underlying61;have a28:=Tryz.isAgg61;have z28:=Tryz.sizeOf61;have v28:=Tryz.zeroValue61;have t59:=Tryz.underlying87;have a59:=Tryz.isAgg87;have z59:=Tryz.sizeOf87;have v59:=Tryz.zeroValue87;have t62:=Tryz.underlying90;have a62:=Tryz.isAgg90;have z62:=Tryz.sizeOf90;have v62:=Tryz.zeroValue90;have e53:=enters_of Tryz.func85 (by kernel_rfl) rfl;have e52:=enters_of Tryz.func84 (by kernel_rfl) rfl;obtain⟨W1,hW1⟩:∃W1,(w.alloc (.cells #[.pointer (some ⟨db,0,none⟩)] 61)).alloc (.cells #[.map (some mb)] 87)=W1:=⟨_,rfl⟩;have hb1:Below w.heap.size w W1:=by rw[<-hW1];exact((Below.refl _ w).alloc (aMq _) _).alloc zz _
 have hd1:W1.heap[w.heap.size]? =some (.cells #[.pointer (some ⟨db,0,none⟩)] 61 (0,0)):=by rw[<-hW1];exact(Below.heap_alloc _ _ _ zz).trans (World.alloc_heap_new w _)
 have hm1:W1.heap[w.heap.size+1]? =some (.cells #[.map (some mb)] 87 (0,0)):=by
  rw[<-hW1];have:=World.alloc_heap_new (w.alloc (.cells #[.pointer (some ⟨db,0,none⟩)] 61)) (.cells #[.map (some mb)] 87);simpa using this
 have hC:=h W1 w.heap.size hb1.block (by simp[World.cell?,hd1]);have hs:=YF (Bm:=w.heap.size+1) hC (by simp[World.cell?,hm1]) hlen hold hnd;have hdl:=cell?_lt hm;have hm':(w.alloc (.cells #[.pointer (some ⟨db,0,none⟩)] 61)).cell? ⟨db,2,none⟩=some (.map (some mb)):=(((Below.refl _ w).alloc (aMq _) _).cell (p:=⟨db,2,none⟩) hdl).trans hm;have hdn:¬db=w.heap.size:=by have:db<w.heap.size:=hdl;omega
 clear hm
 go_enter Tryz.func66,Tryz.ntmps66
 go_wp2_with (first
  | (go_at_call 85;refine(aGt mb _).mono ?_;rintro e w1 ⟨rfl,rfl⟩)
  | (go_at_call 84;refine hs.mono ?_;rintro e w2 ⟨v,ks,rfl,h1,h2,h3⟩))
 go_ret
 have hsz:w.heap.size<=W1.heap.size:=hb1.size;refine⟨v,ks,rfl,h1,hb1.trans (h2.mono hsz), ?_⟩;rcases h3 with h3| ⟨g,cap,cur,q1,q2,q3⟩
 ·exact .inl h3
 ·exact .inr ⟨g,cap,cur,q1,aMr hsz q2,q3⟩
end Go.Proofs
set_option maxRecDepth 4000
namespace Go.Abs
open Go.Proofs Go.Memo
def nY(now:Int)(l0 l1 l2:Int)(c:Nat):AObj:=.row [aE now,aE l0,aE l1,aE l2, .mapp c]
theorem gz{es:List GE}{k:QK}{v:qH}(h:(gP es k=none/\v= .zero)\/gP es k=some (zJ v)):∃tl,oD false (.agg [.slice [] .full, .str [], .int .i64 0, .int .i64 0]) (gP es k)= .agg [.slice (v.val.nums.map aE) tl, .str v.val.text,aE (v.c:Int),aE (v.d:Int)]:=by
 rcases h with⟨h1,rfl⟩|h
 ·rw[h1];exact⟨.full,rfl⟩
 ·rw[h];exact⟨.none,rfl⟩
theorem wE{now l0 l1 l2:Int}{c id:Nat}{H:aH}(h1:H[id]? =some (nY now l0 l1 l2 c)):aR Tryz.prog 122 [.optr id 0] H λr' H'=>r'=aE now/\H'=H:=by
 simp only[nY,aE]at h1;have q1:∀L,(H++L)[id]? =some (.row [.int .i64 now, .int .i64 l0, .int .i64 l1, .int .i64 l2, .mapp c]):=λL=>by rw[aM0 (lG h1)];exact h1
 refine eW (N:=7) Tryz.func122 rfl rfl zz (.int _ _) λhb'=> ?_;refine aV (cF aA aD aB aC q1 h1) ?_;refine aV (aG y3 BO aA aD aB aC (aS q1 h1)) ?_
 repeat refine wS ?_
 refine wT ⟨.inr rfl,_,_,rfl, ?_,sP⟩;simp only[jN,seval,aE,aA,aD,aB,aC]
theorem JE{now l0 l1 l2:Int}{c id:Nat}{H:aH}(h1:H[id]? =some (nY now l0 l1 l2 c))(d:Nat)(hd:d<=2)(v:Int)(hv: [l0,l1,l2][d]? =some v):aR Tryz.prog 130 [.optr id 0,aE (d:Int)] H λr' H'=>r'=aE v/\H'=H:=by
 simp only[nY,aE]at h1;have hlt:decide ((d:Int)<0)=false:=decide_eq_false z8;have hge:decide ((d:Int)>=3)=false:=decide_eq_false z8;have hld:([PV.int .i64 now, .int .i64 l0, .int .i64 l1, .int .i64 l2, .mapp c])[1+d*1]? =some (.int .i64 v):=by
  match d,hd with
  |0,_=>simp at hv;simp[hv]
  |1,_=>simp at hv;simp[hv]
  |2,_=>simp at hv;simp[hv]
 have q1:∀L,(H++L)[id]? =some (.row [.int .i64 now, .int .i64 l0, .int .i64 l1, .int .i64 l2, .mapp c]):=λL=>by rw[aM0 (lG h1)];exact h1
 refine eW (N:=17) Tryz.func130 rfl rfl zz (.int _ _) λhb'=> ?_;refine aV (aG aA aD aB aC q1 h1 (aS hlt hge)) ?_;refine tJ (aG y3 aA aD aB aC q1 (bR h1 hlt hge)) ?_;refine pJ (aG aA aD aB aC q1 h1 (aS hlt hge)) ?_
 repeat refine wS ?_
 refine wK ?_;refine eA 4 (aG BO aA aD aB aC q1 (bD h1 hlt hge hld)) ?_;refine uG (k:=d) rfl (dW (bD aA aD aB aC)) z7 (n:=3) (e:=3) (i:=⟨false,1,8⟩) (by kernel_rfl) (dW (bD aA aD aB aC)) (dW (bD aA aD aB aC)) z8 ?_;refine bH (aG y3 aA aD aB aC q1 (bD h1 hlt hge hld)) ?_
 repeat refine wS ?_
 refine wT ⟨.inr rfl,_,_,rfl, ?_,sP⟩;simp only[jN,seval,aE,aA,aD,aB,aC,hld]
theorem aD4{now l0 l1 l2:Int}{c id:Nat}{H:aH}(h1:H[id]? =some (nY now l0 l1 l2 c)){es:List GE}{clk:Nat}(h2:H[c]? =some (.obj (.mapg es clk)))(k:QK)(v:qH)(h3:(gP es k=none/\v= .zero)\/gP es k=some (zJ v))(hl:v.val.nums.length*8<=2^47):aR Tryz.prog 104 [.optr id 0,dQ k] H λr' H'=>r'= .tup [qN v.val,aE (v.c:Int),aE (v.d:Int)]/\H'=H:=by
 simp only[nY,aE]at h1;obtain⟨k1,k2,k3⟩:=k;obtain⟨tl,gE⟩:=gz h3;have q1:∀L,(H++L)[id]? =some (.row [.int .i64 now, .int .i64 l0, .int .i64 l1, .int .i64 l2, .mapp c]):=λL=>by rw[aM0 (lG h1)];exact h1
 have q2:∀L,(H++L)[c]? =some (.obj (.mapg es clk)):=λL=>by rw[aM0 (lG h2)];exact h2
 refine eW (N:=21) Tryz.func104 rfl rfl zz (.tup _ (by simp[qN,eF,bF.int])) λhb'=> ?_;refine aV (aG iB nU aA aD aB aC (aG q1 h1 q2 h2 gE fJ (aS bG fY))) ?_
 repeat refine wS ?_
 refine iU 1 (n0:=H.length+2) (by first|rfl| (simp only[aNo,aM7,aOa,Nat.reduceAdd,aNn,q1,h1,q2,h2,gE,cD,dQ,qN];done)) (by kernel_rfl) ?_;refine eP 6 (by first|rfl| (simp only[aNo,aM7,aOa,Nat.reduceAdd,aNn,q1,h1,q2,h2,gE,cD,dQ,qN];done)) (DQ (aG iB ZS BO zZ aA aD (aG aB aC q1 h1 q2 h2 (bD gE fJ bG fY)))) z7 z7 z7 ?_;refine mR (by first| (simp only[LS,HS,aOe,aMl,aN7,q1,h1,q2,h2,gE,cD,dQ,qN]<;>with_reducible rfl)|rfl) ?_;refine iO (bm:= [0,1,3,7,0,31,0,127]) (fresh:=(H.length+2)) (by kernel_rfl) (JW (aG zZ aA aD aB aC q1 (aG h1 q2 h2 gE fJ bG fY))) z7 (by repeat (first|exact fT.base _|with_reducible apply fT.keep|apply fT.drop)) ?_
 repeat refine wS ?_
 refine kP 0 (by kernel_rfl) ?_;refine yQ (bm:= [0,1,3,0,8,0,32,7,159,511]) 2 (fresh:=0) (by kernel_rfl) (EY (aG nU zZ aA aD aB aC (aG q1 h1 q2 h2 gE fJ (aS bG fY)))) z7 z7 ?_;refine rE (bm:= [0,1,3,0,8,0,32,7,159,511]) ([]) (by kernel_rfl) (DT (aG aA aD aB aC q1 h1 (cF q2 h2 gE fJ bG fY))) (bP (aG aA aD aB aC q1 h1 (cF q2 h2 gE fJ bG fY))) z7 YS (λH' _=>QZ v.val.nums v.val.text hl H') (XO (aG aA aD aB aC q1 h1 (cF q2 h2 gE fJ bG fY))) ?_;refine pR (bm:= [0,1,3,0,8,0,32,7,159,511]) (fresh:=0) (by kernel_rfl) (EY (aG y3 nU zZ aA aD aB (aG aC q1 h1 q2 h2 gE (bR fJ bG fY)))) z7 ?_
 repeat refine wS ?_
 refine wT ⟨.inr rfl,_,_,(OZ (.cell 4 67) (.tmp 5) (.tmp 6) rfl (kS pT z7 (JA (aG aA aD aB aC q1 h1 (cF q2 h2 gE fJ bG fY)))) (aM z7) (aM z7)), ?_,sP⟩;simp only[jN,seval,aE,aA,aD,aB,aC];rfl
end Go.Abs
namespace Go.Abs
open Go.Proofs Go.Memo
theorem dE.upd{F0 F':eL}{H0 H1 H2:aH}(a:dE F0 F' H0 H1)(hl:H1.length<=H2.length)(h:∀id,id<H0.length->H2[id]? =H1[id]?):dE F0 F' H0 H2:=
 ⟨aMr a.len hl,λid h1 h2=>(h id h1).trans (a.same id h1 h2),a.ids⟩
end Go.Abs
namespace Go.Abs
open Go.Proofs Go.Memo
abbrev GN(es:List GE):Prop:=(es.map (·.2.1)).Nodup
theorem uB:∀(es:List GE) (k:QK) (j:Nat),(iH es k j).map (·.2)=(iH es k 0).map (·.2)
 | [],_,_=>rfl
 |e::es,k,j=>by
  simp only[iH]
  split
  ·rfl
  ·rw[uB es k (j+1),uB es k (0+1)]
theorem iT(e:GE)(es:List GE)(k:QK):gP (e::es) k=if k=e.2.1 then some e.2.2 else gP es k:=by
 unfold gP;simp only[iH]
 split
 ·rfl
 ·have:=uB es k (0+1);have h:=congrArg (Option.map (·.2)) this;simp only[Option.map_map]at h;exact h
theorem EO{es:List GE}{k:QK}(h:k∉es.map (·.2.1)):gP es k=none:=by
 induction es with
 |nil=>rfl
 |cons e es ih=>
  simp only[aNl,aN2,not_or]at h;rw[iT,if_neg h.1];exact ih h.2
theorem ZX(es:List GE)(e:GE)(k:QK):gP (es++ [e]) k=match gP es k with|some v=>some v|none=>if k=e.2.1 then some e.2.2 else none:=by
 induction es with
 |nil=>rw[aN7,iT];rfl
 |cons x es ih=>
  rw[aMl,iT,iT,ih]
  split<;>rfl
theorem AW:∀(es:List GE) (k:QK) (i b:Nat) (p v:PV) (j:Nat),iH es k j=some (i,b,p)->∀q,gP (es.set (i-j) (b,k,v)) q=if q=k then some v else gP es q
 | [],k,i,b,p,v,j,h,q=>by cases h
 |e::es,k,i,b,p,v,j,h,q=>by
  simp only[iH]at h
  split at h
  ·rename_i he;cases h;rw[aNt,List.set_cons_zero,iT,iT];simp only
   by_cases hq:q=k
   ·rw[if_pos hq,if_pos hq]
   ·rw[if_neg hq,if_neg hq,if_neg (λh=>hq (h.trans he.symm))]
  ·rename_i hne;have h1:=(tK es k (j+1) i b p h).1;rw[show i-j=(i- (j+1))+1 by omega,List.set_cons_succ,iT,iT,AW es k i b p v (j+1) h q]
   by_cases hq:q=k
   ·subst hq;rw[if_neg hne,if_pos rfl,if_pos rfl]
   ·rw[if_neg hq,if_neg hq]
theorem BW(es:List GE)(clk:Nat)(k:QK)(v:PV)(q:QK):gP (sE es clk k v) q=if q=k then some v else gP es q:=by
 unfold sE;cases h:iH es k 0 with
 |none=>
  have hn:gP es k=none:=by unfold gP;rw[h];rfl
  simp only;rw[ZX]
  by_cases hq:q=k
  ·subst hq;rw[hn]
  ·cases gP es q<;>simp[hq]
 |some r=>
  obtain⟨i,b,p⟩:=r;have:=AW es k i b p v 0 h q;rw[Nat.sub_zero]at this;exact this
theorem OX{es:List GE}(hn:GN es)(clk:Nat)(k:QK)(v:PV):GN (sE es clk k v):=by
 unfold sE;cases h:iH es k 0 with
 |none=>
  have:=vM es k 0 h;simp only;rw[GN,aN3,List.nodup_append];refine⟨hn,zz,λx hx y hy=> ?_⟩;simp at hy;subst hy;rintro rfl;exact this hx
 |some r=>
  obtain⟨i,b,p⟩:=r;have h1:=(tK es k 0 i b p h).2.2;rw[Nat.sub_zero]at h1;simp only;rw[GN,rP (·.2.1) es i (b,k,v) (b,k,p) h1 rfl];exact hn
theorem WC{es:List GE}(hn:GN es)(k:QK):GN (uU es k):=by
 unfold uU
 split
 ·rw[GN,nW];exact hn.sublist (List.eraseIdx_sublist _ _)
 ·exact hn
theorem NA{es:List GE}(hn:GN es)(k q:QK):gP (uU es k) q=if q=k then none else gP es q:=by
 have key:∀(es:List GE) (j i b:Nat) (p:PV),GN es->iH es k j=some (i,b,p)->gP (es.eraseIdx (i-j)) q=if q=k then none else gP es q:=by
  intro es
  induction es with
  |nil=>intro j i b p _ h;cases h
  |cons e es ih=>
   intro j i b p hn h;simp only[iH]at h;simp only[GN,aNl,List.nodup_cons]at hn
   split at h
   ·rename_i he;cases h;rw[aNt,List.eraseIdx_cons_zero,iT]
    by_cases hq:q=k
    ·subst hq;rw[if_pos rfl];exact EO (by rw[he];exact hn.1)
    ·rw[if_neg hq,if_neg (λh=>hq (h.trans he.symm))]
   ·rename_i hne;have h1:=(tK es k (j+1) i b p h).1;rw[show i-j=(i- (j+1))+1 by omega,List.eraseIdx_cons_succ,iT,iT,ih (j+1) i b p hn.2 h]
    by_cases hq:q=k
    ·subst hq;rw[if_neg hne,if_pos rfl,if_pos rfl]
    ·rw[if_neg hq,if_neg hq]
 unfold uU;cases h:iH es k 0 with
 |none=>
  have hk:gP es k=none:=by unfold gP;rw[h];rfl
  by_cases hq:q=k
  ·subst hq;rw[if_pos rfl];exact hk
  ·rw[if_neg hq]
 |some r=>
  obtain⟨i,b,p⟩:=r;have:=key es 0 i b p hn h;rw[Nat.sub_zero]at this;exact this
structure Ids where
 d:Nat
 s:Nat
 m:Nat
 c:Nat
 a:Nat
 cf:PV
 stp:PV
structure sR(ix:Ids)(loc:QK->Nat)(act:List QK)(st:St)(F:eL)(H:aH):Prop where
 db:∃clock:Int,H[ix.d]? =some (.row [ix.cf, .optr ix.s 0, .mapp ix.m, .mapp ix.a,ix.stp,aE st.comps,aE clock])
 sto:H[ix.s]? =some (nY st.now (st.lc 0) (st.lc 1) (st.lc 2) ix.c)
 cells:∃es clk,H[ix.c]? =some (.obj (.mapg es clk))/\GN es/\∀k,(gP es k=none/\st.cell k= .zero)\/gP es k=some (zJ (st.cell k))
 res:∃es clk,H[ix.m]? =some (.obj (.mapg es clk))/\GN es/\∀k,gP es k=(st.res k).map λ_=>.optr (loc k) 0
 recs:∀k r,st.res k=some r->(∃tl lu,H[loc k]? =some (.row (oR r tl lu)))/\F (loc k)/\loc k≠ix.d/\loc k≠ix.s/\loc k≠ix.m/\loc k≠ix.c/\loc k≠ix.a/\r.val.nums.length<=rD/\r.deps.length<=rD/\r.D<=2
 inj:∀k k' r r',st.res k=some r->st.res k'=some r'->loc k=loc k'->k=k'
 acts:∃es clk,H[ix.a]? =some (.obj (.mapg es clk))/\GN es/\∀k,gP es k=if k∈act then some (aE 1)else none
 okc:∀k,(st.cell k).val.nums.length<=rD
 own:F ix.d/\F ix.s/\F ix.m/\F ix.c/\F ix.a
 lt:∀id,F id->id<H.length
 ne:ix.d≠ix.s/\ix.d≠ix.m/\ix.d≠ix.c/\ix.d≠ix.a/\ix.s≠ix.m/\ix.s≠ix.c/\ix.s≠ix.a/\ix.m≠ix.c/\ix.m≠ix.a/\ix.c≠ix.a
 clk:∀clock:Int,H[ix.d]? =some (.row [ix.cf, .optr ix.s 0, .mapp ix.m, .mapp ix.a,ix.stp,aE st.comps,aE clock])->clock=wrap64 (st.clk:Int)
 lus:∀k r tl lu,st.res k=some r->H[loc k]? =some (.row (oR r tl lu))->∃m:Nat,m<=st.clk/\lu=wrap64 (m:Int)
section
variable{ix:Ids}{loc:QK->Nat}{act:List QK}{st:St}{F:eL}{H:aH}
theorem sR.fr{H':aH}(h:sR ix loc act st F H)(he:∀id,F id->H'[id]? =H[id]?):sR ix loc act st F H':=by
 obtain⟨o1,o2,o3,o4,o5⟩:=h.own;refine⟨by rw[he _ o1];exact h.db,by rw[he _ o2];exact h.sto,by rw[he _ o4];exact h.cells,by rw[he _ o3];exact h.res,λk r hk=> ?_,h.inj,by rw[he _ o5];exact h.acts,h.okc,h.own,λid hi=> ?_,h.ne,λc hc=> ?_,λk r tl lu hk hr=> ?_⟩
 ·obtain⟨h1,h2,h3⟩:=h.recs k r hk;exact⟨by rw[he _ h2];exact h1,h2,h3⟩
 ·have:=h.lt id hi;have e:=he id hi;rcases aMo id H'.length with hl|hl
  ·exact hl
  ·rw[aM2 hl,aNi this]at e;cases e
 ·rw[he _ o1]at hc;exact h.clk c hc
 ·rw[he _ (h.recs k r hk).2.1]at hr;exact h.lus k r tl lu hk hr
theorem sR.mark(h:sR ix loc act st F H){es:List GE}{clk:Nat}(hm:H[ix.a]? =some (.obj (.mapg es clk)))(k:QK):sR ix loc (k::act) st F (H.set ix.a (.obj (.mapg (sE es clk k (aE 1)) (vS es clk k)))):=by
 obtain⟨o1,o2,o3,o4,o5⟩:=h.own;obtain⟨n1,n2,n3,n4,n5,n6,n7,n8,n9,n10⟩:=h.ne;have hs:∀id,id≠ix.a->(H.set ix.a (AObj.obj (.mapg (sE es clk k (aE 1)) (vS es clk k))))[id]? =H[id]? :=λid hi=>aM5 (Ne.symm hi);obtain⟨es',clk',e1,e2,e3⟩:=h.acts;rw[hm]at e1;injection e1 with e1;injection e1 with e1;injection e1 with e1 e1';subst e1;subst e1';refine⟨by rw[hs _ n4];exact h.db,by rw[hs _ n7];exact h.sto,by rw[hs _ n10];exact h.cells,by rw[hs _ n9];exact h.res,λq r hq=> ?_,h.inj,⟨_,_,aM4 (h.lt _ o5),OX e2 _ _ _,λq=> ?_⟩,h.okc,h.own,λid hi=>by rw[lS];exact h.lt id hi,h.ne,λc hc=>by rw[hs _ n4]at hc;exact h.clk c hc,λq r tl lu hq hr=>by rw[hs _ (h.recs q r hq).2.2.2.2.2.2.1]at hr;exact h.lus q r tl lu hq hr⟩
 ·obtain⟨h1,h2⟩:=h.recs q r hq;exact⟨by rw[hs _ h2.2.2.2.2.2.1];exact h1,h2⟩
 ·rw[BW,e3]
  by_cases hq:q=k
  ·simp[hq]
  ·simp[hq]
theorem sR.unmark{k:QK}(h:sR ix loc (k::act) st F H)(hk:k∉act){es:List GE}{clk:Nat}(hm:H[ix.a]? =some (.obj (.mapg es clk))):sR ix loc act st F (H.set ix.a (.obj (.mapg (uU es k) clk))):=by
 obtain⟨o1,o2,o3,o4,o5⟩:=h.own;obtain⟨n1,n2,n3,n4,n5,n6,n7,n8,n9,n10⟩:=h.ne;have hs:∀id,id≠ix.a->(H.set ix.a (AObj.obj (.mapg (uU es k) clk)))[id]? =H[id]? :=λid hi=>aM5 (Ne.symm hi);obtain⟨es',clk',e1,e2,e3⟩:=h.acts;rw[hm]at e1;injection e1 with e1;injection e1 with e1;injection e1 with e1 e1';subst e1;subst e1';refine⟨by rw[hs _ n4];exact h.db,by rw[hs _ n7];exact h.sto,by rw[hs _ n10];exact h.cells,by rw[hs _ n9];exact h.res,λq r hq=> ?_,h.inj,⟨_,_,aM4 (h.lt _ o5),WC e2 _,λq=> ?_⟩,h.okc,h.own,λid hi=>by rw[lS];exact h.lt id hi,h.ne,λc hc=>by rw[hs _ n4]at hc;exact h.clk c hc,λq r tl lu hq hr=>by rw[hs _ (h.recs q r hq).2.2.2.2.2.2.1]at hr;exact h.lus q r tl lu hq hr⟩
 ·obtain⟨h1,h2⟩:=h.recs q r hq;exact⟨by rw[hs _ h2.2.2.2.2.2.1];exact h1,h2⟩
 ·rw[NA e2,e3]
  by_cases hq:q=k
  ·subst hq;rw[if_pos rfl,if_neg hk]
  ·simp[hq]
theorem sR.dbrow(h:sR ix loc act st F H)(stp:PV)(n clock:Int)(ck:Nat)(hle:st.clk<=ck)(hck:clock=wrap64 (ck:Int)):sR {ix with stp:=stp} loc act {st with comps:=n,clk:=ck} F (H.set ix.d (.row [ix.cf, .optr ix.s 0, .mapp ix.m, .mapp ix.a,stp,aE n,aE clock])):=by
 obtain⟨o1,o2,o3,o4,o5⟩:=h.own;obtain⟨n1,n2,n3,n4,n5,n6,n7,n8,n9,n10⟩:=h.ne;have hs:∀id,id≠ix.d->∀o,(H.set ix.d o)[id]? =H[id]? :=λid hi o=>aM5 (Ne.symm hi);refine⟨⟨clock,aM4 (h.lt _ o1)⟩,by rw[hs _ (Ne.symm n1)];exact h.sto,by rw[hs _ (Ne.symm n3)];exact h.cells,by rw[hs _ (Ne.symm n2)];exact h.res,λq r hq=> ?_,h.inj,by rw[hs _ (Ne.symm n4)];exact h.acts,h.okc,h.own,λid hi=>by rw[lS];exact h.lt id hi,h.ne,λc hc=> ?_,λq r tl lu hq hr=> ?_⟩
 ·obtain⟨h1,h2⟩:=h.recs q r hq;exact⟨by rw[hs _ h2.2.1];exact h1,h2⟩
 ·have hc:(H.set ix.d (AObj.row [ix.cf, .optr ix.s 0, .mapp ix.m, .mapp ix.a,stp,aE n,aE clock]))[ix.d]? =_:=hc;rw[aM4 (h.lt _ o1)]at hc;simp[aE]at hc;rw[<-hc];exact hck
 ·rw[hs _ (h.recs q r hq).2.2.1]at hr;obtain⟨m,h1,h2⟩:=h.lus q r tl lu hq hr;exact⟨m,aMr h1 hle,h2⟩
theorem sR.recrow(h:sR ix loc act st F H){k:QK}{r r':gU}(hk:st.res k=some r)(tl:bE)(lu:Int)(h1:r'.val=r.val)(h2:r'.deps=r.deps)(h3:r'.D=r.D)(hlu:∃m:Nat,m<=st.clk/\lu=wrap64 (m:Int)):sR ix loc act {st with res:=eQ st.res k (some r')} F (H.set (loc k) (.row (oR r' tl lu))):=by
 obtain⟨⟨tl0,lu0,r1⟩,r2,r3,r4,r5,r6,r7,r8,r9,r10⟩:=h.recs k r hk;have hs:∀id,id≠loc k->∀o,(H.set (loc k) o)[id]? =H[id]? :=λid hi o=>aM5 (Ne.symm hi);have hres:∀q r0,eQ st.res k (some r') q=some r0->∃r1,st.res q=some r1/\r1.val=r0.val/\r1.deps=r0.deps/\r1.D=r0.D:=by
  intro q r0 hq;unfold eQ at hq
  split at hq
  ·rename_i e;cases hq;subst e;exact⟨r,hk,h1.symm,h2.symm,h3.symm⟩
  ·exact⟨r0,hq,rfl,rfl,rfl⟩
 refine⟨by rw[hs _ (Ne.symm r3)];exact h.db,by rw[hs _ (Ne.symm r4)];exact h.sto,by rw[hs _ (Ne.symm r6)];exact h.cells, ?_,λq r0 hq=> ?_,λq q' a b hq hq' e=> ?_,by rw[hs _ (Ne.symm r7)];exact h.acts,h.okc,h.own,λid hi=>by rw[lS];exact h.lt id hi,h.ne,λc hc=>by rw[hs _ (Ne.symm r3)]at hc;exact h.clk c hc,λq r0 tl1 lu1 hq hr=> ?_⟩
 ·obtain⟨es,clk,e1,e2,e3⟩:=h.res;refine⟨es,clk,by rw[hs _ (Ne.symm r5)];exact e1,e2,λq=> ?_⟩;rw[e3];simp only[eQ]
  split
  ·rename_i e;subst e;rw[hk];rfl
  ·rfl
 ·obtain⟨rr,q1,q2,q3,q4⟩:=hres q r0 hq;obtain⟨⟨tl1,lu1,p1⟩,p2,p3,p4,p5,p6,p7,p8,p9,p10⟩:=h.recs q rr q1;refine⟨?_,p2,p3,p4,p5,p6,p7,q2▸p8,q3▸p9,q4▸p10⟩
  by_cases e:q=k
  ·subst e;have:r0=r':=by simp[eQ]at hq;exact hq.symm
   subst this;exact⟨tl,lu,aM4 (h.lt _ r2)⟩
  ·have:r0=rr:=by simp[eQ,e]at hq;rw[hq]at q1;cases q1;rfl
   subst this;exact⟨tl1,lu1,by rw[hs _ (λe2=>e (h.inj q k r0 r q1 hk e2))];exact p1⟩
 ·obtain⟨r1,q1,_⟩:=hres q a hq;obtain⟨r2,q2,_⟩:=hres q' b hq';exact h.inj q q' r1 r2 q1 q2 e
 ·by_cases e:q=k
  ·subst e;rw[aM4 (h.lt _ r2)]at hr;have:lu=lu1:=by
    simp only[oR,aE,Option.some.injEq,AObj.row.injEq,List.cons.injEq,PV.int.injEq,true_and,and_true]at hr;exact hr.2.2.2.2.2.2
   rw[<-this];exact hlu
  ·have hq':st.res q=some r0:=by simpa[eQ,e]using hq
   rw[hs _ (λe2=>e (h.inj q k r0 r hq' hk e2))]at hr;exact h.lus q r0 tl1 lu1 hq' hr
theorem sR.put(h:sR ix loc act st F H){es:List GE}{clk:Nat}(hm:H[ix.m]? =some (.obj (.mapg es clk)))(k:QK){r:gU}{rr:Nat}{tl:bE}{lu:Int}(hr:H[rr]? =some (.row (oR r tl lu)))(hn:¬F rr)(hv:r.val.nums.length<=rD)(hd:r.deps.length<=rD)(hD:r.D<=2)(hlu:∃m:Nat,m<=st.clk/\lu=wrap64 (m:Int)):
  sR ix (λq=>if q=k then rr else loc q) act {st with res:=eQ st.res k (some r)} (λid=>F id\/id=rr) (H.set ix.m (.obj (.mapg (sE es clk k (.optr rr 0)) (vS es clk k)))):=by
 obtain⟨o1,o2,o3,o4,o5⟩:=h.own;obtain⟨n1,n2,n3,n4,n5,n6,n7,n8,n9,n10⟩:=h.ne;have hs:∀id,id≠ix.m->∀o,(H.set ix.m o)[id]? =H[id]? :=λid hi o=>aM5 (Ne.symm hi);have hne:∀id,F id->rr≠id:=λid hi e=>hn (e▸hi);obtain⟨es',clk',e1,e2,e3⟩:=h.res;rw[hm]at e1;injection e1 with e1;injection e1 with e1;injection e1 with e1 e1';subst e1;subst e1';refine⟨by rw[hs _ n2];exact h.db,by rw[hs _ n5];exact h.sto,by rw[hs _ (Ne.symm n8)];exact h.cells,⟨_,_,aM4 (h.lt _ o3),OX e2 _ _ _,λq=> ?_⟩,λq r0 hq=> ?_,λq q' a b hq hq' e=> ?_,by rw[hs _ (Ne.symm n9)];exact h.acts,h.okc,⟨.inl o1, .inl o2, .inl o3, .inl o4, .inl o5⟩,λid hi=>by rw[lS];exact hi.elim (h.lt id) (λe=>e▸lG hr),h.ne,λc hc=>by rw[hs _ n2]at hc;exact h.clk c hc,λq r0 tl1 lu1 hq hr1=> ?_⟩
 ·rw[BW,e3];simp only[eQ]
  by_cases hq:q=k
  ·simp[hq]
  ·simp[hq]
 ·by_cases e:q=k
  ·subst e;have:r0=r:=by simp[eQ]at hq;exact hq.symm
   subst this;simp only[if_true];exact⟨⟨tl,lu,by rw[hs _ (hne _ o3)];exact hr⟩, .inr trivial,hne _ o1,hne _ o2,hne _ o3,hne _ o4,hne _ o5,hv,hd,hD⟩
  ·have hq':st.res q=some r0:=by simpa[eQ,e]using hq
   simp only[if_neg e];obtain⟨⟨tl1,lu1,p1⟩,p2,p3,p4,p5,p6⟩:=h.recs q r0 hq';exact⟨⟨tl1,lu1,by rw[hs _ p5];exact p1⟩, .inl p2,p3,p4,p5,p6⟩
 ·by_cases e1:q=k<;>by_cases e2:q'=k
  ·rw[e1,e2]
  ·simp only[e1,e2,if_true,if_false]at e;have hq2:st.res q'=some b:=by simpa[eQ,e2]using hq'
   exact(hne _ (h.recs q' b hq2).2.1 e).elim
  ·simp only[e1,e2,if_true,if_false]at e;have hq2:st.res q=some a:=by simpa[eQ,e1]using hq
   exact(hne _ (h.recs q a hq2).2.1 e.symm).elim
  ·simp only[e1,e2,if_false]at e;exact h.inj q q' a b (by simpa[eQ,e1]using hq) (by simpa[eQ,e2]using hq') e
 ·by_cases e:q=k
  ·subst e;simp only[if_true]at hr1;rw[hs _ (hne _ o3),hr]at hr1;have hq0:r0=r:=by simp[eQ]at hq;exact hq.symm
   have:lu=lu1:=by
    simp only[oR,aE,Option.some.injEq,AObj.row.injEq,List.cons.injEq,PV.int.injEq,true_and,and_true]at hr1;exact hr1.2.2.2.2.2.2
   rw[<-this];exact hlu
  ·have hq':st.res q=some r0:=by simpa[eQ,e]using hq
   simp only[if_neg e]at hr1;rw[hs _ (h.recs q r0 hq').2.2.2.2.1]at hr1;exact h.lus q r0 tl1 lu1 hq' hr1
end
end Go.Abs
namespace Go.Abs
open Go.Proofs Go.Memo
structure Cx where
 ix:Ids
 cp:QK->cR
 stpf:Int->Bool
 env:List (Nat×AObj)
 FX:eL
 I:Bool->aH->Prop
structure oA(cx:Cx):Prop where
 comp:aEc Tryz.prog cx.cp cx.ix.cf cx.env
 istab:∀b H H',cx.I b H->(∀id,cx.FX id->H'[id]? =H[id]?)->cx.I b H'
 ilt:∀b H,cx.I b H->∀id,cx.FX id->id<H.length
 stop:(cx.ix.stp= .nilfn/\∀n,cx.stpf n=false)\/∃f caps,cx.ix.stp= .fn (.func f) [] caps/\bO Tryz.prog f=true/\∀loc act st F H,sR cx.ix loc act st F H->cx.I false H->(∀id,F id->¬cx.FX id)->
  aR Tryz.prog f caps H λr H'=>r= .bool (cx.stpf st.comps)/\cx.I (cx.stpf st.comps) H'/\dE cx.FX cx.FX H H'
def WR(cx:Cx)(loc:QK->Nat)(act:List QK)(st:St)(b:Bool)(G:eL)(H:aH):Prop:=
 ∃F,sR cx.ix loc act st F H/\cx.I b H/\(∀id,F id->¬cx.FX id)/\(G=λid=>F id\/cx.FX id\/∃e∈cx.env,e.1=id)/\∀e∈cx.env,H[e.1]? =some e.2/\¬F e.1/\¬cx.FX e.1
section
variable{cx:Cx}{loc:QK->Nat}{act:List QK}{st:St}{b:Bool}{G:eL}{H:aH}(hx:oA cx)
include hx
theorem WR.lt(h:WR cx loc act st b G H):∀id,G id->id<H.length:=by
 obtain⟨F,h1,h2,h3,rfl,h4⟩:=h;rintro id (hi|hi| ⟨e,he,rfl⟩)
 ·exact h1.lt id hi
 ·exact hx.ilt b H h2 id hi
 ·exact lG (h4 e he).1
theorem WR.fr{H':aH}(h:WR cx loc act st b G H)(hs:∀id,G id->H'[id]? =H[id]?):WR cx loc act st b G H':=by
 obtain⟨F,h1,h2,h3,rfl,h4⟩:=h;exact⟨F,h1.fr λid hi=>hs id (.inl hi),hx.istab b H H' h2 λid hi=>hs id (.inr (.inl hi)),h3,rfl,λe hm=>⟨by rw[hs e.1 (.inr (.inr ⟨e,hm,rfl⟩))];exact(h4 e hm).1,(h4 e hm).2⟩⟩
theorem WR.app(h:WR cx loc act st b G H)(L:aH):WR cx loc act st b G (H++L):=
 h.fr hx λid hi=>aM0 (h.lt hx id hi)
end
def XW(cx:Cx)(f:FuncId)(args:List PV)(act:List QK)(loc:QK->Nat)(G:eL)(H:aH){α:Type}(o:Option α)(st':St)(val:α->(QK->Nat)->PV):Prop:=
 nE Tryz.prog zT f args H (λr H'=>∃x loc' G',o=some x/\r=val x loc'/\WR cx loc' act st' false G' H'/\dE G G' H H'/\∀q∈act,loc' q=loc q) (λH'=>o=none/\∃loc' act' G',WR cx loc' act' st' true G' H'/\dE G G' H H')
structure TC(u:List QK->QK->St->qS gU):Prop where
 keep:∀act k st o st',u act k st=some (o,st')->∀q∈act,st'.res q=st.res q
 res:∀act k st r st',u act k st=some (some r,st')->st'.res k=some r
 same:∀act k st o st',u act k st=some (o,st')->st'.now=st.now/\st'.lc=st.lc/\st'.cell=st.cell
def IW(cx:Cx)(u:List QK->QK->St->qS gU):Prop:=
 ∀act k loc st G H o st',k.1≠0->u act k st=some (o,st')->WR cx loc act st false G H->XW cx 107 [.optr cx.ix.d 0,dQ k] act loc G H o st' λ_ loc'=>.optr (loc' k) 0
def PJ(u:QK->St->qS gU)(v:Nat)(d:QK)(st:St):qS Bool:=if d.1=0 then some (some (decide (v<(st.cell d).c)),st)else
 match u d st with
 |none=>none
 |some (none,st')=>some (none,st')
 |some (some r,st')=>some (some (decide (v<r.c)),st')
theorem KR{u:QK->St->qS gU}{v:Nat}{d:QK}{ds:List QK}{st st':St}{o:Option Bool}(h:FY u v (d::ds) st=some (o,st')):
  ∃o1 s1,PJ u v d st=some (o1,s1)/\((o1=none/\o=none/\st'=s1)\/(o1=some true/\o=some true/\st'=s1)\/(o1=some false/\FY u v ds s1=some (o,st'))):=by
 unfold FY at h;unfold PJ
 split at h
 ·rename_i h0;rw[if_pos h0]
  split at h
  ·rename_i hl;injection h with h;injection h with h1 h2;exact⟨_,_,rfl, .inr (.inl ⟨by rw[decide_eq_true hl],h1.symm,h2.symm⟩)⟩
  ·rename_i hl;exact⟨_,_,rfl, .inr (.inr ⟨by rw[decide_eq_false hl],h⟩)⟩
 ·rename_i h0;rw[if_neg h0]
  split at h
  ·cases h
  ·rename_i s1 h1;injection h with h;injection h with h2 h3;rw[h1];exact⟨none,s1,rfl, .inl ⟨rfl,h2.symm,h3.symm⟩⟩
  ·rename_i r s1 h1;rw[h1]
   split at h
   ·rename_i hl;injection h with h;injection h with h2 h3;exact⟨_,s1,rfl, .inr (.inl ⟨by rw[decide_eq_true hl],h2.symm,h3.symm⟩)⟩
   ·rename_i hl;exact⟨_,s1,rfl, .inr (.inr ⟨by rw[decide_eq_false hl],h⟩)⟩
theorem ET{u:List QK->QK->St->qS gU}(hu:TC u){act:List QK}{v:Nat}{d:QK}{st st':St}{o:Option Bool}(h:PJ (u act) v d st=some (o,st')):(∀q∈act,st'.res q=st.res q)/\st'.now=st.now/\st'.lc=st.lc/\st'.cell=st.cell:=by
 unfold PJ at h
 split at h
 ·injection h with h;injection h with h1 h2;subst h2;exact⟨λ_ _=>rfl,rfl,rfl,rfl⟩
 ·split at h
  ·cases h
  ·rename_i h1;injection h with h;injection h with h2 h3;subst h3;exact⟨hu.keep _ _ _ _ _ h1,hu.same _ _ _ _ _ h1⟩
  ·rename_i h1;injection h with h;injection h with h2 h3;subst h3;exact⟨hu.keep _ _ _ _ _ h1,hu.same _ _ _ _ _ h1⟩
theorem DK{u:List QK->QK->St->qS gU}(hu:TC u){act:List QK}{v:Nat}:∀(ds:List QK) {st st':St} {o:Option Bool},FY (u act) v ds st=some (o,st')->(∀q∈act,st'.res q=st.res q)/\st'.now=st.now/\st'.lc=st.lc/\st'.cell=st.cell
 | [],st,st',o,h=>by
  unfold FY at h;injection h with h;injection h with h1 h2;subst h2;exact⟨λ_ _=>rfl,rfl,rfl,rfl⟩
 |d::ds,st,st',o,h=>by
  obtain⟨o1,s1,h1,h2⟩:=KR h;obtain⟨a1,a2,a3,a4⟩:=ET hu h1;rcases h2 with⟨_,_,rfl⟩| ⟨_,_,rfl⟩| ⟨_,h2⟩
  ·exact⟨a1,a2,a3,a4⟩
  ·exact⟨a1,a2,a3,a4⟩
  ·obtain⟨b1,b2,b3,b4⟩:=DK hu ds h2;exact⟨λq hq=>(b1 q hq).trans (a1 q hq),b2.trans a2,b3.trans a3,b4.trans a4⟩
end Go.Abs
set_option maxRecDepth 4000
namespace Go.Abs
open Go.Proofs Go.Memo
theorem UG{n:Nat}(h:n<=rD):n*8<=2^47:=by unfold rD at h;omega
theorem SL{cx:Cx}(hx:oA cx){u:List QK->QK->St->qS gU}(hu:TC u)(hU:IW cx u)(act:List QK)(loc:QK->Nat)(st:St)(G:eL)(H:aH)(q:QK)(v:Nat)(o:Option Bool)(st':St)(hm:PJ (u act) v q st=some (o,st'))(hW:WR cx loc act st false G H):XW cx 133 [.optr cx.ix.d 0,dQ q,aE (v:Int)] act loc G H o st' λb _=>.bool b:=by
 obtain⟨F,D,hI,hdis,hG,henv⟩:=id hW;obtain⟨clock,hdb⟩:=D.db;have hdL:=bU hdb;have hsto:=D.sto;obtain⟨ces,cclk,hce,_,hcv⟩:=D.cells;obtain⟨k1,k2,k3⟩:=q;unfold PJ at hm;refine iY (N:=34) Tryz.func133 rfl rfl zz λhb'=> ?_;refine aV (aG iB aA aD aB aC hdL (aS hdb bG)) ?_;rcases Classical.em (k1=0)with h0|h0
 ·
  rw[if_pos h0]at hm;injection hm with hm;injection hm with h1 h2;subst h1;subst h2;have t12:decide (k1=0)=true:=decide_eq_true h0;have hgt:decide (((st.cell (k1,k2,k3)).c:Int)>(v:Int))=decide (v<(st.cell (k1,k2,k3)).c):=by rw[decide_eq_decide];omega
  refine aV (aG y3 iB aA aD aB aC (bD hdL hdb bG t12)) ?_;refine VV (aG aA aD aB aC hdL hdb (aS bG t12)) ?_
  repeat refine wS ?_
  refine iU 1 (n0:=H.length+1) (by first|rfl| (simp only[aNo,aM7,aOa,Nat.reduceAdd,aNn,hdL,hdb,dQ,t12,qN];done)) (by kernel_rfl) ?_;refine eP 5 (by first|rfl| (simp only[aNo,aM7,aOa,Nat.reduceAdd,aNn,hdL,hdb,dQ,t12,qN];done)) (DQ (aG iB y85 rK aA aD aB (cF aC hdL hdb bG t12 fY))) z7 z7 z7 ?_;refine wN (by first|rfl| (simp only[aNo,aM7,aOa,Nat.reduceAdd,aNn,hdL,hdb,dQ,t12,qN];done)) (zN (aG aA aD aB aC hdL hdb (bR bG t12 fY))) (zN (aG aA aD aB aC hdL hdb (bR bG t12 fY))) (TP (aG aA aD aB aC hdL hdb (bR bG t12 fY))) z7 YV (λhc L=>aD4 (bU (bU hsto _) _) (bU (bU hce _) _) (k1,k2,k3) _ (hcv _) (UG (D.okc _))) ?_;refine eP 4 (by first|rfl| (simp only[aNo,aM7,aOa,Nat.reduceAdd,aNn,hdL,hdb,dQ,t12,qN];done)) (DQ (aG aA aD aB aC hdL hdb (bR bG t12 fY))) z7 z7 z7 ?_;refine mR (by first| (simp only[LS,HS,aOe,aMl,aN7,hdL,hdb,dQ,t12,qN]<;>with_reducible rfl)|rfl) ?_;refine iO (bm:= [0,1,3,7,0,31,63,127,127,127,0,1279,3583,8191]) (fresh:=(H.length+1)) (by kernel_rfl) (JW (aG nU aA aD aB aC hdL (bD hdb bG t12 fY))) z7 (by repeat (first|exact fT.base _|with_reducible apply fT.keep|apply fT.drop)) ?_;refine gQ [2,8] (aG aA aD aB aC hdL hdb (aS bG t12)) ?_;refine aV (aG y3 aA aD aB aC hdL (bD hdb bG t12 hgt)) ?_
  repeat refine wS ?_
  refine wT (Or.inl ⟨.inr rfl,_,rfl, ?_⟩);refine⟨_,loc,G,rfl,rfl,hW.app hx _,dE.app _ _ _ (hW.lt hx),λ_ _=>rfl⟩
 ·
  rw[if_neg h0]at hm;have t12:decide (k1=0)=false:=decide_eq_false h0;obtain⟨o1,hu1⟩:∃o1,u act (k1,k2,k3) st=some (o1,st')/\o=o1.map λr=>decide (v<r.c):=by
   split at hm
   ·cases hm
   ·rename_i h1;injection hm with hm;injection hm with h2 h3;subst h2;subst h3;exact⟨none,h1,rfl⟩
   ·rename_i r s1 h1;injection hm with hm;injection hm with h2 h3;subst h2;subst h3;exact⟨some r,h1,rfl⟩
  obtain⟨hu1,ho1⟩:=hu1;subst ho1;refine aV (aG y3 iB aA aD aB aC (bD hdL hdb bG t12)) ?_;refine pJ (aG aA aD aB aC hdL hdb (aS bG t12)) ?_
  repeat refine wS ?_
  refine wK ?_;refine eA 2 (aG iB aA aD aB aC hdL (bR hdb bG t12)) ?_;refine gN (dW (aG aA aD aB aC hdL hdb (aS bG t12))) (bP (aG aA aD aB aC hdL hdb (aS bG t12))) z7 QJ (hU act (k1,k2,k3) loc st G _ o1 st' h0 hu1 (hW.app hx _)) ?_ (λHP ⟨ho,loc',act',G',w',f'⟩=>Or.inr ⟨rfl,by rw[ho];rfl,loc',act',G',w',f'.of_app⟩);rintro r H1 ⟨rec,loc2,G2,rfl,rfl,w2,f2,l2⟩;obtain⟨F2,D2,_⟩:=id w2;obtain⟨⟨tl2,lu2,r2⟩,_⟩:=D2.recs _ _ (hu.res _ _ _ _ _ hu1);simp only[oR]at r2;have hgt:decide ((rec.c:Int)>(v:Int))=decide (v<rec.c):=by rw[decide_eq_decide];omega
  refine bH (aG y3 pO aA aD aB aC (cF hdL hdb bG t12 r2 hgt)) ?_
  repeat refine wS ?_
  refine wT (Or.inl ⟨.inr rfl,_,rfl, ?_⟩);refine⟨_,loc2,G2,rfl,rfl,w2,f2.of_app,l2⟩
end Go.Abs
set_option maxRecDepth 4000
namespace Go.Abs
open Go.Proofs Go.Memo
def XWr(cx:Cx)(f:FuncId)(args:List PV)(act:List QK)(loc:QK->Nat)(G:eL)(H:aH){α:Type}(o:Option α)(st':St)(val:α->(QK->Nat)->PV->Prop):Prop:=
 nE Tryz.prog zT f args H (λr H'=>∃x loc' G',o=some x/\val x loc' r/\WR cx loc' act st' false G' H'/\dE G G' H H'/\∀q∈act,loc' q=loc q) (λH'=>o=none/\∃loc' act' G',WR cx loc' act' st' true G' H'/\dE G G' H H')
structure ZR(d rr x2 x3:Nat)(G:eL)(H:aH):Prop where
 b2:H[x2]? =some (.row [.optr d 0])
 b3:H[x3]? =some (.row [.optr rr 0])
 n2:¬G x2
 n3:¬G x3
theorem ZR.fr{d rr x2 x3:Nat}{G G':eL}{H H':aH}(h:ZR d rr x2 x3 G H)(f:dE G G' H H'):ZR d rr x2 x3 G' H':=
 ⟨(f.get h.b2 h.n2).1,(f.get h.b3 h.n3).1,(f.get h.b2 h.n2).2,(f.get h.b3 h.n3).2⟩
theorem ZR.app{d rr x2 x3:Nat}{G:eL}{H:aH}(h:ZR d rr x2 x3 G H)(L:aH):ZR d rr x2 x3 G (H++L):=⟨bU h.b2 L,bU h.b3 L,h.n2,h.n3⟩
theorem YG{cx:Cx}(hx:oA cx){u:List QK->QK->St->qS gU}(hu:TC u)(hU:IW cx u)(act:List QK)(loc:QK->Nat)(st:St)(G:eL)(H:aH)(k q:QK)(r:gU)(hk:st.res k=some r)(x2 x3:Nat)(hB:ZR cx.ix.d (loc k) x2 x3 G H)(o:Option Bool)(st':St)(hm:PJ (u act) r.v q st=some (o,st'))(hW:WR cx loc act st false G H):XW cx 132 [dQ q, .optr x2 0, .optr x3 0] act loc G H o st' λb _=>.bool b:=by
 obtain⟨F,D,hI,hdis,hG,henv⟩:=id hW;obtain⟨⟨tl,lu,hrr⟩,_⟩:=D.recs k r hk;have q2:=bU hB.b2;have q3:=bU hB.b3;have qr:=bU hrr;simp only[oR]at qr;obtain⟨q1,q2',q3'⟩:=q;have qk:(H++ [AObj.row [PV.int .i64 q1, .int .i64 q2', .int .i64 q3']])[H.length]? =some (.row [PV.int .i64 q1, .int .i64 q2', .int .i64 q3']):=zz
 refine iY (N:=12) Tryz.func132 rfl rfl zz λhb'=> ?_;refine aV (cF iB aA aD aB aC bG) ?_
 repeat refine wS ?_
 refine dV 0 (by kernel_rfl) ?_;simp only[aOd,aN9];refine tO 6 (bm:= [0,0,0,4,12,28,63,127]) (by kernel_rfl) z7 (by kernel_rfl) (by kernel_rfl) ?_;refine pR (bm:= [0,0,0,4,12,28,63,127]) (fresh:=0) (by kernel_rfl) (EY (aG y3 qV iB pO fM aA (aG aD aB aC q2 q3 qr qk))) z7 ?_;refine gJ (k:=6) (bm:= [0,0,0,4,12,28,63,127]) (by kernel_rfl) rfl (by kernel_rfl) (by kernel_rfl) ?_;refine gN (dW eO) (bP eO) z7 aF4 (SL hx hu hU act loc st G _ (q1,q2',q3') r.v o st' hm (hW.app hx _)) ?_ (λHP ⟨ho,loc',act',G',w',f'⟩=>Or.inr ⟨rfl,ho,loc',act',G',w',f'.of_app⟩);rintro rv H4 ⟨b,loc4,G4,rfl,rfl,w4,f4,l4⟩;refine oN ?_;show iP _ _ _ _ _ _ _ _;refine gJ (k:=7) (bm:= [0,0,0,4,12,28,63,127]) (by kernel_rfl) rfl (by kernel_rfl) (by kernel_rfl) ?_;refine bH (bD aA aD aB aC) ?_;show iP _ _ _ _ _ _ _ _;refine eV ?_
 repeat refine wS ?_
 refine wT (Or.inl ⟨.inr rfl,_,rfl, ?_⟩);exact⟨b,loc4,G4,rfl,rfl,w4,f4.of_app,l4⟩
theorem aJ7{cx:Cx}(hx:oA cx){u:List QK->QK->St->qS gU}(hu:TC u)(hU:IW cx u)(act:List QK)(loc:QK->Nat)(st:St)(G:eL)(H:aH)(k:QK)(r:gU)(hk:st.res k=some r)(hka:k∈act)(x2 x3:Nat)(hB:ZR cx.ix.d (loc k) x2 x3 G H)(ds:List QK)(hl:ds.length<=rD)(o:Option Bool)(st':St)(hm:FY (u act) r.v ds st=some (o,st'))(hW:WR cx loc act st false G H):XWr cx 148 [.slice (ds.map dQ) .none, .fn (.func 132) [] [.optr x2 0, .optr x3 0]] act loc G H o st' λb _ rv=>∃n:Int,rv=aE n/\decide (n>=0)=b:=by
 unfold rD at hl;refine iY (N:=19) Tryz.func148 rfl rfl zz λhb'=> ?_;refine aV (bD aA aD aB aC) ?_;refine aV (cF iB yA aA aD aB aC) ?_
 repeat refine wS ?_
 refine bJ ?_;refine fF (σ:=Nat×St×(QK->Nat)×eL) (λ(z:Nat×St×(QK->Nat)×eL)=> [(0, .slice (ds.map dQ) .none),(1, .fn (.func 132) [] [.optr x2 0, .optr x3 0]),(7,aE (ds.length:Int)),(8,aE (z.1:Int))]) (λ(z:Nat×St×(QK->Nat)×eL)=>λH1=>z.1<=ds.length/\FY (u act) r.v (ds.drop z.1) z.2.1=some (o,st')/\WR cx z.2.2.1 act z.2.1 false z.2.2.2 H1/\dE G z.2.2.2 H H1/\(∀q∈act,z.2.2.1 q=loc q)/\z.2.1.res k=some r/\ZR cx.ix.d (loc k) x2 x3 z.2.2.2 H1) (λ(z:Nat×St×(QK->Nat)×eL)=>ds.length-z.1) ((0,st,loc,G)) ⟨(dJ (bD aA aD aB aC)),(dJ (bD aA aD aB aC)),(dJ (bD aA aD aB aC)),(dJ (bD aA aD aB aC)),trivial⟩ (⟨aNs _,hm,hW,dE.refl _ _,λ_ _=>rfl,hk,hB⟩) ?_;intro z H1 hg;obtain⟨i,st1,loc1,G1⟩:=z;obtain⟨hi0,hm1,hW1,hf1,hl1,hk1,hB1⟩:=hg;simp only at hi0 hm1 hW1 hf1 hl1 hk1 hB1;rcases aMo i ds.length with hlt|hge
 ·
  have gi:=fS hlt;have ge:=dF dQ hlt;have gl:decide ((i:Int)<(ds.length:Int))=true:=decide_eq_true z8;have w1:IntKind.i64.wrap ((i:Int)+1)=((i+1:Nat):Int):=by rw[cL z8 z8];omega
  rw[aOi hlt]at hm1;obtain⟨o1,s1,hc1,hcs⟩:=KR hm1;have hkeep:=ET hu hc1;have hlk:loc1 k=loc k:=hl1 k hka;refine aV (aG y3 aA aD aB aC gi (bR ge gl w1)) ?_;refine VV (aG aA aD aB aC gi ge (aS gl w1)) ?_
  repeat refine wS ?_
  refine wK ?_
  repeat refine wS ?_
  refine bJ ?_;refine aV (aG aA aD aB aC gi ge (aS gl w1)) ?_;refine eA 5 (aG iB yA aA aD aB aC (bD gi ge gl w1)) ?_;refine gN (dW (aG aA aD aB aC gi ge (aS gl w1))) (bP (aG aA aD aB aC gi ge (aS gl w1))) z7 aFk (YG hx hu hU act loc1 st1 G1 _ k ds[i] r hk1 x2 x3 (hlk▸hB1) o1 s1 hc1 hW1) ?_ (λHP ⟨ho,loc',act',G',w',f'⟩=>Or.inr ⟨rfl,by rcases hcs with⟨_,h,h2⟩| ⟨h,_⟩| ⟨h,_⟩<;>first|exact⟨h,loc',act',G',h2▸w',hf1.trans f'⟩| (rw[ho]at h;cases h)⟩);rintro rv H2 ⟨b,loc2,G2,rfl,rfl,w2,f2,l2⟩;refine oN ?_;refine gG (aG aA aD aB aC gi ge (aS gl w1)) (λbt16=> ?_) (λbt16=> ?_)
  ·
   subst bt16;refine aV (aG aA aD aB aC gi ge (aS gl w1)) ?_
   repeat refine wS ?_
   refine wT (Or.inl ⟨.inr rfl,_,rfl, ?_⟩);rcases hcs with⟨h,_⟩| ⟨_,h,h2⟩| ⟨h,_⟩
   ·cases h
   ·subst h2;exact⟨true,loc2,G2,h,⟨(i:Int),rfl,decide_eq_true z8⟩,w2,hf1.trans f2,λq hq=>(l2 q hq).trans (hl1 q hq)⟩
   ·cases h
  ·
   subst bt16
   repeat refine wS ?_
   refine wK ?_;refine aV (aG y3 aA aD aB aC gi (bR ge gl w1)) ?_
   try simp only[bQ,cB]
   rcases hcs with⟨h,_⟩| ⟨h,_⟩| ⟨_,h⟩
   ·cases h
   ·cases h
   ·exact⟨(i+1,s1,loc2,G2),by show ds.length- (i+1)<ds.length-i;omega,⟨rfl,rfl,rfl,by simp only[w1,seval,jN,upd,FW,BN,GZ,aE]<;>rfl,trivial⟩,by show i+1<=ds.length;omega,h,w2,hf1.trans f2,λq hq=>(l2 q hq).trans (hl1 q hq),(hkeep.1 k hka).trans hk1,hB1.fr f2⟩
 ·
  have gl:decide ((i:Int)<(ds.length:Int))=false:=decide_eq_false z8;have hil:i=ds.length:=z8
  subst hil;rw[List.drop_length,FY]at hm1;injection hm1 with hm1;injection hm1 with h1 h2;subst h1;subst h2;refine aV (cF y3 aA aD aB aC gl) ?_;refine pJ (bL aA aD aB aC gl) ?_
  repeat refine wS ?_
  refine dO ?_;simp only[bQ,cB,reduceIte,Nat.reduceEqDiff,aOf,if_true,if_false];refine aV (bL aA aD aB aC gl) ?_
  repeat refine wS ?_
  refine wT (Or.inl ⟨.inr rfl,_,rfl, ?_⟩);exact⟨false,loc1,G1,rfl,⟨-1,rfl,z7⟩,hW1,hf1,hl1⟩
theorem aBe{cx:Cx}(hx:oA cx){u:List QK->QK->St->qS gU}(hu:TC u)(hU:IW cx u)(act:List QK)(loc:QK->Nat)(st:St)(G:eL)(H:aH)(k:QK)(r:gU)(hk:st.res k=some r)(hka:k∈act)(x2 x3:Nat)(hB:ZR cx.ix.d (loc k) x2 x3 G H)(ds:List QK)(hl:ds.length<=rD)(o:Option Bool)(st':St)(hm:FY (u act) r.v ds st=some (o,st'))(hW:WR cx loc act st false G H):XW cx 131 [.slice (ds.map dQ) .none, .fn (.func 132) [] [.optr x2 0, .optr x3 0]] act loc G H o st' λb _=>.bool b:=by
 refine iY (N:=9) Tryz.func131 rfl rfl zz λhb'=> ?_;refine aV (bD aA aD aB aC) ?_;refine eA 2 (bD aA aD aB aC) ?_;refine gN (dW (bD aA aD aB aC)) (bP (bD aA aD aB aC)) z7 aGg (aJ7 hx hu hU act loc st G _ k r hk hka x2 x3 hB ds hl o st' hm hW) ?_ (λHP ⟨ho,loc',act',G',w',f'⟩=>Or.inr ⟨rfl,ho,loc',act',G',w',f'⟩);rintro rv H1 ⟨b,loc2,G2,ho,⟨n,rfl,hn⟩,w2,f2,l2⟩;refine bH (bL y3 aA aD aB aC) ?_
 repeat refine wS ?_
 refine wT (Or.inl ⟨.inr rfl,_,rfl, ?_⟩);exact⟨b,loc2,G2,ho,by rw[<-hn];rfl,w2,f2,l2⟩
end Go.Abs
set_option maxRecDepth 4000
namespace Go.Abs
open Go.Proofs Go.Memo
def LP(u:QK->St->qS gU)(r:gU)(st:St):qS Bool:=if r.v=st.now\/st.lc r.D<=r.v then some (some true,st)else
 match FY u r.v r.deps st with
 |none=>none
 |some (none,st')=>some (none,st')
 |some (some b,st')=>some (some (!b),st')
theorem lc3{l:Nat->Nat}{d:Nat}(hd:d<=2):([(l 0:Int),(l 1:Int),(l 2:Int)])[d]? =some (l d:Int):=by
 match d,hd with
 |0,_=>rfl
 |1,_=>rfl
 |2,_=>rfl
theorem aB1{cx:Cx}(hx:oA cx){u:List QK->QK->St->qS gU}(hu:TC u)(hU:IW cx u)(act:List QK)(loc:QK->Nat)(st:St)(G:eL)(H:aH)(k:QK)(r:gU)(hk:st.res k=some r)(hka:k∈act)(o:Option Bool)(st':St)(hm:LP (u act) r st=some (o,st'))(hW:WR cx loc act st false G H):XW cx 120 [.optr cx.ix.d 0, .optr (loc k) 0] act loc G H o st' λb _=>.bool b:=by
 obtain⟨F,D,hI,hdis,hG,henv⟩:=id hW;obtain⟨clock,hdb⟩:=D.db;have hdL:=bU hdb;have hsto:=D.sto;obtain⟨⟨tl,lu,hrr⟩,_,_,_,_,_,_,_,hdl,hD2⟩:=D.recs k r hk;have hrL:=bU hrr;simp only[oR]at hrL;have hB:ZR cx.ix.d (loc k) H.length (H.length+1) G (H++ [AObj.row [PV.optr cx.ix.d 0],AObj.row [PV.optr (loc k) 0]]):=⟨zz,zz,λh=>by have:=hW.lt hx _ h;omega,λh=>by have:=hW.lt hx _ h;omega⟩;have t30:(decide ((r.v:Int)=(st.now:Int))||decide ((st.lc r.D:Int)<=(r.v:Int)))=decide (r.v=st.now\/st.lc r.D<=r.v):=by
  rw[aN1];simp only[Bool.or_eq_true,decide_eq_true_eq];omega
 have hb2:=hB.b2;have hb3:=hB.b3;unfold LP at hm;refine iY (N:=38) Tryz.func120 rfl rfl zz λhb'=> ?_;refine aV (aG qV fM aA aD aB aC (bL hdL hdb hrL hb2 hb3)) ?_
 repeat refine wS ?_
 refine eJ (by kernel_rfl) ?_;refine lY 8 (aG y3 qV y85 rK pO fM (aG aA aD aB aC hdL hdb (bR hrL hb2 hb3))) ?_;refine CE (aG aA aD aB aC hdL hdb (bR hrL hb2 hb3)) PN (λhc=>wE (bU hsto _)) ?_;refine lY 10 (aG y3 qV y85 rK pO fM (aG aA aD aB aC hdL hdb (bR hrL hb2 hb3))) ?_;refine CE (aG aA aD aB aC hdL hdb (bR hrL hb2 hb3)) aE3 (λhc=>JE (bU hsto _) r.D hD2 _ (lc3 hD2)) ?_;refine iI (aG y3 pO fM aA aD aB (cF aC hdL hdb hrL hb2 hb3)) ?_;refine gG (aG aA aD aB aC hdL hdb (bR hrL hb2 hb3)) (λbt30=> ?_) (λbt30=> ?_)
 ·
  rw[t30,decide_eq_true_eq]at bt30;rw[if_pos bt30]at hm;injection hm with hm;injection hm with h1 h2;subst h1;subst h2;refine gQ [] (aG aA aD aB aC hdL hdb (bR hrL hb2 hb3)) ?_;refine aV (aG aA aD aB aC hdL hdb (bR hrL hb2 hb3)) ?_
  repeat refine wS ?_
  refine wT (Or.inl ⟨.inr rfl,_,rfl, ?_⟩);exact⟨true,loc,G,rfl,rfl,hW.app hx _,dE.app _ _ _ (hW.lt hx),λ_ _=>rfl⟩
 ·
  rw[t30,decide_eq_false_iff_not]at bt30;rw[if_neg bt30]at hm;obtain⟨o1,hc1,ho1⟩:∃o1,FY (u act) r.v r.deps st=some (o1,st')/\o=o1.map not:=by
   split at hm
   ·cases hm
   ·rename_i h1;injection hm with hm;injection hm with h2 h3;subst h2;subst h3;exact⟨none,h1,rfl⟩
   ·rename_i b s1 h1;injection hm with hm;injection hm with h2 h3;subst h2;subst h3;exact⟨some b,h1,rfl⟩
  subst ho1
  repeat refine wS ?_
  refine wK ?_;refine gQ [2,3] (aG aA aD aB aC hdL hdb (bR hrL hb2 hb3)) ?_;refine eA 5 (aG iB yA pO fM aA aD (aG aB aC hdL hdb hrL hb2 hb3)) ?_;refine gN (dW (aG aA aD aB aC hdL hdb (bR hrL hb2 hb3))) (bP (aG aA aD aB aC hdL hdb (bR hrL hb2 hb3))) z7 aGz (aBe hx hu hU act loc st G _ k r hk hka _ _ hB r.deps hdl o1 st' hc1 (hW.app hx _)) ?_ (λHP ⟨ho,loc',act',G',w',f'⟩=>Or.inr ⟨rfl,by rw[ho];rfl,loc',act',G',w',f'.of_app⟩);rintro rv H1 ⟨b,loc2,G2,rfl,rfl,w2,f2,l2⟩;refine bH (aG aA aD aB aC hdL hdb (bR hrL hb2 hb3)) ?_
  repeat refine wS ?_
  refine wT (Or.inl ⟨.inr rfl,_,rfl, ?_⟩);exact⟨!b,loc2,G2,rfl,rfl,w2,f2.of_app,l2⟩
end Go.Abs
namespace Go.Abs
open Go.Proofs Go.Memo
theorem dE.set{F F':eL}{H H':aH}(a:dE F F' H H'){i:Nat}(hi:F' i)(o:AObj):dE F F' H (H'.set i o):=
 ⟨by rw[lS];exact a.len,λid h1 h2=>by rw[aM5 (by rintro rfl;exact h2 (a.ids _ hi h1))];exact a.same id h1 h2,a.ids⟩
theorem dE.set'{F F':eL}{H H' H'':aH}(a:dE F F' H H'){i:Nat}(hi:F' i)(hs:∀id,id≠i->H''[id]? =H'[id]?)(hl:H''.length=H'.length):dE F F' H H'':=
 ⟨by rw[hl];exact a.len,λid h1 h2=>by rw[hs id (by rintro rfl;exact h2 (a.ids _ hi h1))];exact a.same id h1 h2,a.ids⟩
theorem dE.new{F F':eL}{H H':aH}(a:dE F F' H H'){i:Nat}(hi:H.length<=i)(o:AObj):dE F F' H (H'.set i o):=
 a.upd zz λid hid=>aM5 z8
theorem dE.more{F F':eL}{H H':aH}(a:dE F F' H H'){p:eL}(hp:∀id,p id->F' id\/H.length<=id):dE F p H H':=
 ⟨a.len,a.same,λid h h1=>(hp id h).elim (λh=>a.ids id h h1) (λh=>z8)⟩
theorem bN{H:aH}{id i:Nat}{o:AObj}{x:AObj}(h:H[id]? =some x)(hne:id≠i):(H.set i o)[id]? =some x:=by rw[aM5 (Ne.symm hne)];exact h
def pW(now:Nat)(a:xY)(tl:bE):AObj:=.row [.slice [] .full, .str [],aE (now:Int),aE (now:Int),aE (a.D:Int), .slice (a.deps.map dQ) tl,aE 0]
structure iS(cx:Cx)(L:QK->Nat)(act:List QK)(rr x2 x6 now:Nat)(tl:bE)(a:xY)(st:St)(F:eL)(H:aH):Prop where
 w:∃loc G,WR cx loc act st false G H/\(∀q∈act,loc q=L q)/\¬G rr/\¬G x2/\¬G x6/\(∀t,tl= .tok t->¬G t)/\F=λid=>G id\/id=rr\/id=x2\/id=x6\/tl= .tok id
 row:H[rr]? =some (pW now a tl)
 b2:H[x2]? =some (.row [.optr cx.ix.d 0])
 b6:H[x6]? =some (.row [.optr rr 0])
 ne:rr≠x2/\rr≠x6/\x2≠x6
 tk:(a.deps= []/\tl= .full)\/∃t,tl= .tok t/\H[t]? =some (.buf a.deps.length 3)/\t≠rr/\t≠x2/\t≠x6
 d2:a.D<=2
 dl:a.deps.length<=rD
section
variable{cx:Cx}(hx:oA cx){L:QK->Nat}{act:List QK}{rr x2 x6 now:Nat}{tl:bE}{a:xY}{st:St}{F:eL}{H:aH}
include hx
theorem iS.lt(h:iS cx L act rr x2 x6 now tl a st F H):∀id,F id->id<H.length:=by
 obtain⟨loc,G,h1,h2,h3,h4,h5,h6,rfl⟩:=h.w;rintro id (hi|rfl|rfl|rfl|hi)
 ·exact h1.lt hx id hi
 ·exact lG h.row
 ·exact lG h.b2
 ·exact lG h.b6
 ·rcases h.tk with⟨_,e⟩| ⟨t,e,ht,_⟩
  ·rw[e]at hi;cases hi
  ·rw[e]at hi;cases hi;exact lG ht
theorem iS.fr{H':aH}(h:iS cx L act rr x2 x6 now tl a st F H)(hs:∀id,F id->H'[id]? =H[id]?):iS cx L act rr x2 x6 now tl a st F H':=by
 obtain⟨loc,G,h1,h2,h3,h4,h5,h6,h7⟩:=h.w;subst h7;refine⟨⟨loc,G,h1.fr hx (λid hi=>hs id (.inl hi)),h2,h3,h4,h5,h6,rfl⟩,by rw[hs _ (.inr (.inl rfl))];exact h.row,by rw[hs _ (.inr (.inr (.inl rfl)))];exact h.b2,by rw[hs _ (.inr (.inr (.inr (.inl rfl))))];exact h.b6,h.ne, ?_,h.d2,h.dl⟩;rcases h.tk with e| ⟨t,e,ht,hn⟩
 ·exact .inl e
 ·exact .inr ⟨t,e,by rw[hs _ (.inr (.inr (.inr (.inr e))))];exact ht,hn⟩
theorem iS.app(h:iS cx L act rr x2 x6 now tl a st F H)(M:aH):iS cx L act rr x2 x6 now tl a st F (H++M):=
 h.fr hx λid hi=>aM0 (h.lt hx id hi)
omit hx in
theorem iS.mem(h:iS cx L act rr x2 x6 now tl a st F H):F rr/\F x2/\F x6/\∀t,tl= .tok t->F t:=by
 obtain⟨loc,G,h1,h2,h3,h4,h5,h6,rfl⟩:=h.w;exact⟨.inr (.inl rfl), .inr (.inr (.inl rfl)), .inr (.inr (.inr (.inl rfl))),λt e=>.inr (.inr (.inr (.inr e)))⟩
omit hx in
theorem iS.got{loc':QK->Nat}{G G':eL}{st':St}{H':aH}(h:iS cx L act rr x2 x6 now tl a st F H)(hG:¬G rr/\¬G x2/\¬G x6/\∀t,tl= .tok t->¬G t)(hF:F=λid=>G id\/id=rr\/id=x2\/id=x6\/tl= .tok id)
  (hw:WR cx loc' act st' false G' H') (hl:∀q∈act,loc' q=L q) (f:dE G G' H H'):∃F',iS cx L act rr x2 x6 now tl a st' F' H'/\dE F F' H H'/\∀id,F' id->G' id\/F id:=by
 have g1:=f.get h.row hG.1;have g2:=f.get h.b2 hG.2.1;have g3:=f.get h.b6 hG.2.2.1;refine⟨λid=>G' id\/id=rr\/id=x2\/id=x6\/tl= .tok id,⟨⟨loc',G',hw,hl,g1.2,g2.2,g3.2,λt e hg=> ?_,rfl⟩,g1.1,g2.1,g3.1,h.ne, ?_,h.d2,h.dl⟩,⟨f.len,λid h1 h2=>f.same id h1 λhg=>h2 (by rw[hF];exact .inl hg),λid hi hl=> ?_⟩,λid hi=>hi.imp (λh=>h) λh=>by rw[hF];exact .inr h⟩
 ·rcases h.tk with⟨_,e2⟩| ⟨t2,e2,ht,_⟩
  ·rw[e2]at e;cases e
  ·rw[e2]at e;cases e;exact hG.2.2.2 _ e2 (f.ids _ hg (lG ht))
 ·rcases h.tk with e| ⟨t,e,ht,hn⟩
  ·exact .inl e
  ·exact .inr ⟨t,e,(f.get ht (hG.2.2.2 t e)).1,hn⟩
 ·rw[hF];exact hi.imp (λhg=>f.ids id hg hl) (λh=>h)
omit hx in
theorem dE.sub{F G G':eL}{H H':aH}(f:dE G G' H H')(hs:∀id,G id->F id):dE F G' H H':=⟨f.len,λid h1 h2=>f.same id h1 λhg=>h2 (hs id hg),λid hi hl=>hs id (f.ids id hi hl)⟩
theorem iS.put(h:iS cx L act rr x2 x6 now tl a st F H){a':xY}{tl':bE}{H1:aH}{F':eL}(hF:F'=λid=>F id\/tl'= .tok id)(hs:∀id,F id->tl'≠ .tok id->H1[id]? =H[id]?)
  (htl:tl=tl'\/tl= .full) (ht:(a'.deps= []/\tl'= .full)\/∃t,tl'= .tok t/\H1[t]? =some (.buf a'.deps.length 3)/\(tl= .tok t\/¬F t)) (hd:a'.D<=2) (hl:H.length<=H1.length) (hdl:a'.deps.length<=rD):
  iS cx L act rr x2 x6 now tl' a' st F' (H1.set rr (pW now a' tl')):=by
 have hlt:=h.lt hx;have hmem:=h.mem;obtain⟨n1,n2,n3⟩:=h.ne;have hnt:∀id,F id->(tl≠ .tok id)->tl'≠ .tok id:=by
  intro id hi hn e;rcases ht with⟨_,e2⟩| ⟨t,e2,_,h3⟩
  ·rw[e2]at e;cases e
  ·rw[e2]at e;cases e;rcases h3 with h3|h3
   ·exact hn h3
   ·exact h3 hi
 have hold:∀t,tl= .tok t->t≠rr/\t≠x2/\t≠x6:=by
  intro t e;rcases h.tk with⟨_,e2⟩| ⟨t2,e2,_,h3⟩
  ·rw[e2]at e;cases e
  ·rw[e2]at e;cases e;exact h3
 have ntok:∀id,(id=rr\/id=x2\/id=x6)->tl≠ .tok id:=by
  rintro id (rfl|rfl|rfl) e<;>have:=hold _ e<;>simp at this
 obtain⟨loc,G,h1,h2,h3,h4,h5,h6,h7⟩:=h.w;subst h7;have hG:∀id,G id->(H1.set rr (pW now a' tl'))[id]? =H[id]? :=λid hi=>by
  rw[aM5 (by rintro rfl;exact h3 hi)];exact hs id (.inl hi) (hnt id (.inl hi) λe=>h6 id e hi)
 have hbx:∀id,(id=x2\/id=x6)->∀o,H[id]? =some o->(H1.set rr (pW now a' tl'))[id]? =some o:=by
  intro id hi o ho;rw[aM5 (by rcases hi with rfl|rfl<;>first|exact n1|exact n2),hs id (by rcases hi with rfl|rfl<;>first|exact hmem.2.1|exact hmem.2.2.1) (hnt id (by rcases hi with rfl|rfl<;>first|exact hmem.2.1|exact hmem.2.2.1) (ntok id (.inr hi)))];exact ho
 have hrl:rr<H1.length:=aMs (lG h.row) hl;refine⟨⟨loc,G,h1.fr hx hG,h2,h3,h4,h5,λt e hg=> ?_, ?_⟩,aM4 hrl,hbx _ (.inl rfl) _ h.b2,hbx _ (.inr rfl) _ h.b6,h.ne, ?_,hd,hdl⟩
 ·exact hnt t (.inl hg) (λe2=>h6 t e2 hg) e
 ·rw[hF];funext id;apply propext;constructor
  ·rintro((hi|hi|hi|hi|hi)|hi)
   ·exact .inl hi
   ·exact .inr (.inl hi)
   ·exact .inr (.inr (.inl hi))
   ·exact .inr (.inr (.inr (.inl hi)))
   ·rcases htl with e|e
    ·exact .inr (.inr (.inr (.inr (e▸hi))))
    ·rw[e]at hi;cases hi
   ·exact .inr (.inr (.inr (.inr hi)))
  ·rintro(hi|hi|hi|hi|hi)
   ·exact .inl (.inl hi)
   ·exact .inl (.inr (.inl hi))
   ·exact .inl (.inr (.inr (.inl hi)))
   ·exact .inl (.inr (.inr (.inr (.inl hi))))
   ·exact .inr hi
 ·rcases ht with e| ⟨t,e,h8,h9⟩
  ·exact .inl e
  ·have hn:t≠rr/\t≠x2/\t≠x6:=by
    rcases h9 with h9|h9
    ·exact hold t h9
    ·exact⟨λq=>h9 (q▸hmem.1),λq=>h9 (q▸hmem.2.1),λq=>h9 (q▸hmem.2.2.1)⟩
   exact .inr ⟨t,e,by rw[aM5 (Ne.symm hn.1)];exact h8,hn⟩
theorem iS.dur(h:iS cx L act rr x2 x6 now tl a st F H){d:Nat}(hd:d<=2):iS cx L act rr x2 x6 now tl ⟨a.deps,d⟩ st F (H.set rr (pW now ⟨a.deps,d⟩ tl)):=by
 refine h.put hx (a':=⟨a.deps,d⟩) (tl':=tl) (H1:=H) (F':=F) ?_ (λ_ _ _=>rfl) (.inl rfl) ?_ hd (aMq _) h.dl
 ·funext id;exact propext ⟨.inl,λh1=>h1.elim (λh=>h) (h.mem.2.2.2 id)⟩
 ·rcases h.tk with e| ⟨t,e,ht,_⟩
  ·exact .inl e
  ·exact .inr ⟨t,e,ht, .inl e⟩
theorem iS.first(h:iS cx L act rr x2 x6 now .full a st F H)(k:QK)(ha:a.deps= []):iS cx L act rr x2 x6 now (.tok H.length) ⟨[k],a.D⟩ st (λid=>F id\/id=H.length) ((H++ [AObj.buf 1 3]).set rr (pW now ⟨[k],a.D⟩ (.tok H.length))):=
 h.put hx (a':=⟨[k],a.D⟩) (tl':=.tok H.length) (H1:=H++ [AObj.buf 1 3]) (by funext id;refine propext ⟨λh=>h.imp (λh=>h) (λe=>by rw[e]),λh=>h.imp (λh=>h) (λe=>by injection e with e;exact e.symm)⟩)
  (λid hi _=>aM0 (h.lt hx id hi)) (.inr rfl) (.inr ⟨H.length,rfl,zz, .inr λhf=>by have:=h.lt hx _ hf;omega⟩) h.d2 zz (by show 1<=rD;decide)
theorem iS.next{t:Nat}(h:iS cx L act rr x2 x6 now (.tok t) a st F H)(k:QK)(hk:a.deps.length<rD):iS cx L act rr x2 x6 now (.tok t) ⟨a.deps++ [k],a.D⟩ st F ((H.set t (.buf (a.deps.length+1) 3)).set rr (pW now ⟨a.deps++ [k],a.D⟩ (.tok t))):=by
 have hm:=h.mem.2.2.2 t rfl;refine h.put hx (a':=⟨a.deps++ [k],a.D⟩) (tl':=.tok t) (H1:=H.set t (AObj.buf (a.deps.length+1) 3)) (F':=F) ?_ (λid hi hn=>aM5 (λe=>hn (by rw[e]))) (.inl rfl) (.inr ⟨t,rfl,by rw[aM4 (h.lt hx _ hm)];simp, .inl rfl⟩) h.d2 zz (by simp;omega);funext id;exact propext ⟨.inl,λh1=>h1.elim (λh=>h) (h.mem.2.2.2 id)⟩
def JG(cx:Cx)(L:QK->Nat)(act:List QK)(rr x2 x6 now:Nat)(s:(xY×St)×Bool)(F:eL)(H:aH):Prop:=
 (s.2=false/\∃tl,iS cx L act rr x2 x6 now tl s.1.1 s.1.2 F H)\/(s.2=true/\∃loc act',WR cx loc act' s.1.2 true F H)
theorem aG6(L:QK->Nat)(act:List QK)(rr x2 x6 now:Nat):Own (JG cx L act rr x2 x6 now):=
 ⟨λ{s F H H'} h hs=>h.imp (λ⟨e,tl,h1⟩=>⟨e,tl,h1.fr hx hs⟩) (λ⟨e,loc,act',h1⟩=>⟨e,loc,act',h1.fr hx hs⟩),
  λ{s F H} h id hi=>h.elim (λ⟨_,tl,h1⟩=>h1.lt hx id hi) (λ⟨_,loc,act',h1⟩=>h1.lt hx id hi)⟩
end
end Go.Abs
set_option maxRecDepth 4000
namespace Go.Abs
open Go.Proofs Go.Memo
def NB(u:QK->St->qS gU)(k:QK)(s:(xY×St)×Bool):Option (Option QV×((xY×St)×Bool)):=if s.2=true then none else
 match mB u k s.1 with
 |none=>none
 |some (none,s')=>some (none,(s',true))
 |some (some v,s')=>some (some v,(s',false))
theorem aD7{u:QK->St->qS gU}:∀(p:cR) (s s':xY×St) (o:Option QV),lL (mB u) p s=some (o,s')->lL (NB u) p (s,false)=some (o,(s',o.isNone))
 | .bad,s,s',o,h=>by simp[lL]at h
 | .ret v,s,s',o,h=>by
  simp only[lL,Option.some.injEq,Prod.mk.injEq]at h⊢;obtain⟨rfl,rfl⟩:=h;exact⟨rfl,rfl,rfl⟩
 | .get k c,s,s',o,h=>by
  unfold lL at h⊢;simp only[NB,aNh,if_false]
  split at h
  ·cases h
  ·rename_i s1 h1;injection h with h;injection h with h2 h3;subst h2;subst h3;rw[h1];rfl
  ·rename_i v s1 h1;rw[h1];exact aD7 (c v) s1 s' o h
theorem SQ{u:QK->St->qS gU}{k:QK}{a:xY}{st:St}{f:Bool}{o:Option QV}{s':(xY×St)×Bool}(h:NB u k ((a,st),f)=some (o,s')):f=false/\
  ((k.1=0/\FI (st.cell k).val=true/\NX a=true/\o=some (st.cell k).val/\s'=((a.add k (st.cell k).d,st),false))\/(k.1≠0/\∃o1 st1,u k st=some (o1,st1)/\((o1=none/\o=none/\s'=((a,st1),true))\/∃r,o1=some r/\FI r.val=true/\NX a=true/\o=some r.val/\s'=((a.add k r.D,st1),false)))):=by
 unfold NB at h
 split at h
 ·cases h
 rename_i hf;refine⟨by simpa using hf, ?_⟩;unfold mB at h
 by_cases h0:k.1=0
 ·left;simp only[if_pos h0]at h
  by_cases hok:(FI (st.cell k).val&&NX a)=true
  ·rw[if_pos hok]at h;injection h with h;injection h with h1 h2;rw[aMj]at hok;exact⟨h0,hok.1,hok.2,h1.symm,h2.symm⟩
  ·rw[if_neg hok]at h;cases h
 ·right;refine⟨h0, ?_⟩;simp only[if_neg h0]at h;cases hu:u k st with
  |none=>rw[hu]at h;cases h
  |some p=>
   obtain⟨o1,st1⟩:=p;rw[hu]at h;refine⟨o1,st1,rfl, ?_⟩;cases o1 with
   |none=>
    left;injection h with h;injection h with h1 h2;exact⟨rfl,h1.symm,h2.symm⟩
   |some r=>
    right;simp only at h
    by_cases hok:(FI r.val&&NX a)=true
    ·rw[if_pos hok]at h;injection h with h;injection h with h1 h2;rw[aMj]at hok;exact⟨r,rfl,hok.1,hok.2,h1.symm,h2.symm⟩
    ·rw[if_neg hok]at h;cases h
theorem aFr(us:List QK)(u:QK)(fr t:Nat)(H:aH)(tl2:bE)(hH:H[t]? =some (.buf us.length 3))(hl:us.length<rD):cK ⟨true,3,24⟩ fr H (.slice (us.map dQ) (.tok t)) (.slice [dQ u] tl2)=some (.slice ((us++ [u]).map dQ) (.tok t),some (t, .buf (us.length+1) 3)):=by
 have em:maxLen=9223372036854775807:=z7
 unfold rD at hl;have:=HN (i:=⟨true,3,24⟩) (fresh:=fr) (H:=H) (es:=us.map dQ) (x:=dQ u) (id:=t) (n:=us.length) (tl:=tl2) hH zz (by simp;omega) (by simp;omega) (λe he=>by obtain⟨v,_,rfl⟩:=aNy.1 he;rfl) rfl rfl z7;simpa using this
theorem aGo(u:QK)(fr:Nat)(H:aH)(tl2:bE):cK ⟨true,3,24⟩ fr H (.slice [] .full) (.slice [dQ u] tl2)=some (.slice [dQ u] (.tok fr),some (fr, .buf 1 3)):=
 zB (i:=⟨true,3,24⟩) zz (by show 1*24<=2^47;decide) (by show 1<=maxLen;decide) (λe he=>by rw[aN8.1 he];exact⟨rfl,rfl⟩) z7
theorem aEw{cx:Cx}(hx:oA cx){u:List QK->QK->St->qS gU}(hu:TC u)(hU:IW cx u)(L:QK->Nat)(act:List QK)(rr x2 x6 now:Nat):aFv Tryz.prog (JG cx L act rr x2 x6 now) (NB (u act)) (.fn (.func 134) [] [.optr x2 0, .optr x6 0]):=by
 refine⟨aG6 hx L act rr x2 x6 now,134,_,rfl,aGa,λk s F H o s' hs hj=> ?_⟩;obtain⟨⟨a,st⟩,f⟩:=s;obtain⟨rfl,hcase⟩:=SQ hs;obtain⟨_,tl,hR⟩:=hj.resolve_right (λh=>by cases h.1);simp only at hR;obtain⟨m1,m2,m3,m4⟩:=hR.mem;have r2:=bU hR.b2;have r6:=bU hR.b6;obtain⟨loc,G,hW,hloc,nGr,nG2,nG6,nGt,hFG⟩:=hR.w;obtain⟨F0,D,hI,hdis,hG,henv⟩:=id hW;obtain⟨clock,hdb⟩:=D.db;have hdL:=bU hdb;have hsto:=D.sto;obtain⟨ces,cclk,hce,_,hcv⟩:=D.cells;have hlt:=hR.lt hx;have bq:∀ {i:Nat},i<H.length->∀n,(H.length+n==i)=false:=λhi n=>by simp;omega
 obtain⟨o1,o2,o3,o4,o5⟩:=D.own;have gd:=bq (D.lt _ o1);have gs:=bq (D.lt _ o2);have gc:=bq (D.lt _ o4);have g2:=bq (hlt _ m2);obtain⟨k1,k2,k3⟩:=k;refine iY (N:=60) Tryz.func134 rfl rfl zz λhb'=> ?_;refine aV (aG iB nU aA aD aB aC (bL r2 r6 hdL hdb bG)) ?_;refine aV (aG nU aA aD aB aC r2 (bD r6 hdL hdb bG)) ?_;refine aV (aG aA aD aB aC r2 r6 (bR hdL hdb bG)) ?_;refine aV (aG y3 iB aA aD aB aC (bL r2 r6 hdL hdb bG)) ?_
 repeat refine wS ?_
 refine nP (σ:=QV×Nat×St) (λ(z:QV×Nat×St)=> [(1, .optr x2 0),(2, .optr x6 0),(3, .optr H.length 0),(4, .optr (H.length+1) 0),(5, .optr (H.length+2) 0),(6,aE (z.2.1:Int))]) (λ(z:QV×Nat×St)=>λH5=>o=some z.1/\s'=((a.add (k1,k2,k3) z.2.1,z.2.2),false)/\NX a=true/\(∃F5,iS cx L act rr x2 x6 now tl a z.2.2 F5 H5/\dE F F5 H H5/\¬F5 H.length/\¬F5 (H.length+1)/\¬F5 (H.length+2))/\H5[H.length]? =some (.row [aE k1,aE k2,aE k3])/\H5[H.length+1]? =some (.row [.slice [] .full, .str []])/\H5[H.length+2]? =some (.row [.slice (z.1.nums.map aE) .none, .str z.1.text])) ?_ ?_
 ·
  refine gG (aG aA aD aB aC r2 r6 (bR hdL hdb bG)) (λbt10=> ?_) (λbt10=> ?_)
  ·
   skip
   rcases hcase with⟨h0,hov,hoa,rfl,rfl⟩| ⟨h0,_⟩
   rotate_left
   ·exact(h0 (of_decide_eq_true bt10)).elim
   simp only at h0
   ·
    repeat refine wS ?_
    refine kP 0 (by kernel_rfl) ?_;refine yQ (bm:= [0,1,3,7,0,31,63,127,127,127,255,2047]) 5 (fresh:=0) (by kernel_rfl) (EY (aG qV iB y85 rK aA aD (aG aB aC r2 r6 hdL hdb (cF bG fY gd gs gc g2)))) z7 z7 ?_;refine rE (bm:= [0,1,3,7,0,31,63,127,127,127,255,2047]) ([cx.ix.s,cx.ix.c]) (by kernel_rfl) (DT (aG aA aD aB aC r2 r6 (aG hdL hdb bG fY gd gs (aS gc g2)))) (bP (aG aA aD aB aC r2 r6 (aG hdL hdb bG fY gd gs (aS gc g2)))) z7 YV (λH' hr=>aD4 (by rw[hr _ zz];exact bU hsto _) (by rw[hr _ zz];exact bU hce _) (k1,k2,k3) _ (hcv _) (UG (D.okc _))) (XO (aG aA aD aB aC r2 r6 (aG hdL hdb bG fY gd gs (aS gc g2)))) ?_;refine pR (bm:= [0,1,3,7,0,31,63,127,127,127,255,2047]) (fresh:=0) (by kernel_rfl) (EY (aG nU aA aD aB aC r2 (aG r6 hdL hdb bG fY gd (bR gs gc g2)))) z7 ?_;exact⟨((st.cell (k1,k2,k3)).val,(st.cell (k1,k2,k3)).d,st),by repeat (first|exact trivial|refine⟨rfl, ?_⟩),rfl,rfl,hoa,⟨F,hR.app hx _,dE.app _ _ _ hlt,λh=>by have:=hlt _ h;omega,λh=>by have:=hlt _ h;omega,λh=>by have:=hlt _ h;omega⟩,zz,zz,zz⟩
  ·
   skip
   rcases hcase with⟨h0,_⟩| ⟨h0,o1,st1,hu1,hcs⟩
   ·exact(of_decide_eq_false bt10 h0).elim
   simp only at h0
   ·
    refine eA 2 (aG qV iB aA aD aB aC (bL r2 r6 hdL hdb bG)) ?_;refine gN (dW (aG aA aD aB aC r2 r6 (bR hdL hdb bG))) (bP (aG aA aD aB aC r2 r6 (bR hdL hdb bG))) z7 QJ (hU act (k1,k2,k3) loc st G _ o1 st1 h0 hu1 (hW.app hx _)) ?_ (λHP ⟨ho,loc',act',G',w',f'⟩=>Or.inr ⟨rfl,by rcases hcs with⟨_,h,h2⟩| ⟨r,h,_⟩<;>first|exact⟨by rw[h];rfl,G', .inr ⟨by rw[h2],loc',act',by rw[h2];exact w'⟩,f'.of_app.sub λid hi=>by rw[hFG];exact .inl hi⟩| (rw[ho]at h;cases h)⟩);rintro rv H1 ⟨rec,loc2,G2,rfl,rfl,w2,f2,l2⟩;obtain⟨hov,hoa,rfl,rfl⟩:FI rec.val=true/\NX a=true/\o=some rec.val/\s'=((a.add (k1,k2,k3) rec.D,st1),false):=by
     rcases hcs with⟨h,_⟩| ⟨r,h,h1,h2,h3,h4⟩
     ·cases h
     ·injection h with h;subst h;exact⟨h1,h2,h3,h4⟩
    obtain⟨F2,D2,_,_,hG2,_⟩:=id w2;obtain⟨⟨tl2,lu2,rr2⟩,_⟩:=D2.recs _ _ (hu.res _ _ _ _ _ hu1);simp only[oR]at rr2;have hnG:∀n,¬G (H.length+n):=λn h=>by have:=hW.lt hx _ h;omega
    have e0:=(f2.get (id:=H.length) (o:=.row [aE k1,aE k2,aE k3]) zz (hnG 0)).1;have e1:=(f2.get (id:=H.length+1) (o:=.row [.slice [] .full, .str []]) zz (hnG 1)).1;have e2:=(f2.get (id:=H.length+2) (o:=.row [.slice [] .full, .str []]) zz (hnG 2)).1;obtain⟨F5,hR5,f5,n5⟩:=hR.got ⟨nGr,nG2,nG6,nGt⟩ hFG w2 (λq hq=>(l2 q hq).trans (hloc q hq)) f2.of_app;have hnF:∀n,n<3->¬F5 (H.length+n):=λn hn h=>(n5 _ h).elim (λh=>hnG n (f2.ids _ h (by simp;omega))) (λh=>by have:=hlt _ h;omega);have hl2:loc2 (k1,k2,k3)≠H.length+2:=λe=>by
     have h1:=(D2.recs _ _ (hu.res _ _ _ _ _ hu1)).2.1;have h2:G2 (loc2 (k1,k2,k3)):=by rw[hG2];exact .inl h1
     exact hnG 2 (f2.ids _ (e▸h2) zz)
    have hne6:(H.length+2==loc2 (k1,k2,k3))=false:=by simpa using Ne.symm hl2
    have he2:(H.length+2=H1.length)=False:=by have:=lG e2;simp;omega
    refine bH (aG aA aD aB aC r2 r6 (aG hdL hdb bG rr2 e0 e1 (aS e2 he2))) ?_
    repeat refine wS ?_
    refine kP 0 (by kernel_rfl) ?_;refine yQ (bm:= [0,1,3,7,15,0,32,96,224,31,1023]) 4 (fresh:=0) (by kernel_rfl) (EY (aG nU pO aA aD aB aC (aG r2 r6 hdL hdb bG rr2 (bL e0 e1 e2 he2 hne6)))) z7 z7 ?_;refine rE (bm:= [0,1,3,7,15,0,32,96,224,31,1023]) ([]) (by kernel_rfl) (DT (aG aA aD aB aC r2 r6 (aG hdL hdb bG rr2 e0 e1 (bR e2 he2 hne6)))) (bP (aG aA aD aB aC r2 r6 (aG hdL hdb bG rr2 e0 e1 (bR e2 he2 hne6)))) z7 GY (λH' _=>AM rec.val.nums rec.val.text (UG (by simpa[FI]using hov)) H') (XO (aG aA aD aB aC r2 r6 (aG hdL hdb bG rr2 e0 e1 (bR e2 he2 hne6)))) ?_;refine pR (bm:= [0,1,3,7,15,0,32,96,224,31,1023]) (fresh:=0) (by kernel_rfl) (EY (aG y3 nU pO aA aD aB (aG aC r2 r6 hdL hdb bG (cF rr2 e0 e1 e2 he2 hne6)))) z7 ?_;exact⟨(rec.val,rec.D,st1),by repeat (first|exact trivial|refine⟨rfl, ?_⟩),rfl,rfl,hoa,⟨F5,hR5.fr hx λid hi=>aM5 (by rintro rfl;exact hnF 2 z8 hi),f5.new z8 _,hnF 0 z8,hnF 1 z8,hnF 2 z8⟩,bN e0 z8,bN e1 z8,aM4 (lG e2)⟩
 ·intro z H5 hg;obtain⟨v,dd,st5⟩:=z;obtain⟨ho,hs5,hoa,⟨F5,hR5,f5,n0,n1,n2⟩,b3,b4,b5⟩:=hg;simp only at ho hs5 hR5 b5;have q2:=hR5.b2;have q6:=hR5.b6;have qr:=hR5.row;simp only[pW]at qr;have hml:a.deps.length<=maxLen:=by
   have em:maxLen=9223372036854775807:=z7
   have h1:a.deps.length<rD:=by simpa[NX]using hoa
   unfold rD at h1;omega
  have q2L:=bU q2;have q6L:=bU q6;have qrL:=bU qr;have b3L:=bU b3;have b4L:=bU b4;have b5L:=bU b5;have hrl:=lG qr;have nz:∀k,(rr=H5.length+k)=False:=λk=>by simp;omega
  have nz0:(rr=H5.length)=False:=by simp;omega
  have nb1:(H5.length==rr)=false:=by simp;omega
  have nb2:(rr==H5.length)=false:=by simp;omega
  repeat refine wS ?_
  refine eJ (by kernel_rfl) ?_;refine lY 5 (aG iB yA pO fM aA aD (aG aB aC r2 r6 hdL hdb (aG bG q2 q6 qr b3 b4 (aG b5 q2L q6L qrL b3L b4L (bL b5L nz nz0 nb1 nb2))))) ?_;refine CE (aG aA aD aB aC r2 r6 (aG hdL hdb bG q2 q6 qr (aG b3 b4 b5 q2L q6L qrL (aG b3L b4L b5L nz nz0 nb1 nb2)))) aE5 (λhc=>VF a.deps (k1,k2,k3) hml _) ?_;refine iI (aG aA aD aB aC r2 r6 (aG hdL hdb bG q2 q6 qr (aG b3 b4 b5 q2L q6L qrL (aG b3L b4L b5L nz nz0 nb1 nb2)))) ?_;refine gG (aG aA aD aB aC r2 r6 (aG hdL hdb bG q2 q6 qr (aG b3 b4 b5 q2L q6L qrL (aG b3L b4L b5L nz nz0 nb1 nb2)))) (λbt39=> ?_) (λbt39=> ?_)
  ·
   have hnin:(k1,k2,k3)∉a.deps:=by simpa using bt39
   rcases hR5.tk with⟨hd0,rfl⟩| ⟨t,rfl,ht,ht1,ht2,ht3⟩
   ·
    obtain⟨deps,D⟩:=a;simp only at hd0;subst hd0;have ha:∀fr HH,cK ⟨true,3,24⟩ fr HH (.slice [] .full) (.slice [.agg [.int .i64 k1, .int .i64 k2, .int .i64 k3]] .full)=some (.slice [.agg [.int .i64 k1, .int .i64 k2, .int .i64 k3]] (.tok fr),some (fr, .buf 1 3)):=λfr HH=>aGo (k1,k2,k3) fr HH .full
    repeat refine wS ?_
    refine iU 1 (n0:=H5.length) (by first|rfl| (simp only[aNo,aM7,aOa,Nat.reduceAdd,aNn,r2,r6,hdL,hdb,dQ,q2,q6,qr,b3,b4,b5,q2L,q6L,qrL,b3L,b4L,b5L,nz,nz0,nb1,nb2,ha];done)) (by kernel_rfl) ?_;refine eP 7 (by first|rfl| (simp only[aNo,aM7,aOa,Nat.reduceAdd,aNn,r2,r6,hdL,hdb,dQ,q2,q6,qr,b3,b4,b5,q2L,q6L,qrL,b3L,b4L,b5L,nz,nz0,nb1,nb2,ha];done)) (DQ (aG iB yA pO fM aA aD (aG aB aC r2 r6 hdL hdb (aG bG q2 q6 qr b3 b4 (aG b5 q2L q6L qrL b3L b4L (cF b5L nz nz0 nb1 nb2 ha)))))) z7 z7 z7 ?_;refine mR (by first| (simp only[LS,HS,aOe,aMl,aN7,r2,r6,hdL,hdb,dQ,q2,q6,qr,b3,b4,b5,q2L,q6L,qrL,b3L,b4L,b5L,nz,nz0,nb1,nb2,ha]<;>with_reducible rfl)|rfl) ?_;refine iO (bm:= [0,0,2,6,14,0,32,126,255,511,1023]) (fresh:=(H5.length)) (by kernel_rfl) (JW (aG iB yA pO aA aD aB (aG aC r2 r6 hdL hdb bG (aG q2 q6 qr b3 b4 b5 (aG q2L q6L qrL b3L b4L b5L (bL nz nz0 nb1 nb2 ha)))))) z7 (by repeat (first|exact fT.base _|with_reducible apply fT.keep|apply fT.drop)) ?_;refine gQ [2,4,5,6] (aG aA aD aB aC r2 r6 (aG hdL hdb bG q2 q6 qr (aG b3 b4 b5 q2L q6L qrL (aG b3L b4L b5L nz nz0 nb1 (aS nb2 ha))))) ?_;refine dI (λH6=>∃tl6 F6,iS cx L act rr x2 x6 now tl6 ⟨[(k1,k2,k3)],D⟩ st5 F6 H6/\dE F F6 H H6/\¬F6 (H.length+1)/\¬F6 (H.length+2)/\H6[H.length+1]? =some (.row [.slice [] .full, .str []])/\H6[H.length+2]? =some (.row [.slice (v.nums.map aE) .none, .str v.text])) (⟨.tok H5.length,_,hR5.first hx (k1,k2,k3) rfl,((f5.upd zz λid hid=>aM0 (aMs hid f5.len)).more (λid hi=>hi.imp (λh=>h) (λe=>by rw[e];exact f5.len))).set (.inl hR5.mem.1) _,λh=>h.elim n1 (λe=>by have:=lG b5;omega),λh=>h.elim n2 (λe=>by have:=lG b5;omega),bN (b4L _) (λe=>n1 (e▸hR5.mem.1)),bN (b5L _) (λe=>n2 (e▸hR5.mem.1))⟩) ?_;rintro H6 ⟨tl6,F6,hR6,f6,n61,n62,c4,c5⟩;have hadd:xY.add ⟨[],D⟩ (k1,k2,k3) dd=⟨[(k1,k2,k3)],min D dd⟩:=by simp[xY.add]
    have gm:min ((D:Nat):Int) (dd:Int)=((min D dd:Nat):Int):=z8
    have s2:=hR6.b2;have s6:=hR6.b6;have srow:=hR6.row;simp only[pW]at srow;have hrl6:=lG srow;obtain⟨e61,e62,e63⟩:=hR6.ne;have s2s:∀o,(H6.set rr o)[x2]? =some (.row [.optr cx.ix.d 0]):=λo=>bN s2 (Ne.symm e61);have s6s:∀o,(H6.set rr o)[x6]? =some (.row [.optr rr 0]):=λo=>bN s6 (Ne.symm e62);have srs:∀o,(H6.set rr o)[rr]? =some o:=λo=>aM4 hrl6;have c4s:∀o,(H6.set rr o)[H.length+1]? =_:=λo=>bN c4 (λe=>n61 (e▸hR6.mem.1));have c5s:∀o,(H6.set rr o)[H.length+2]? =_:=λo=>bN c5 (λe=>n62 (e▸hR6.mem.1));have mz:(rr=H6.length)=False:=by simp;omega
    have mz1:(H.length+1=H6.length)=False:=by have:=lG c4;simp;omega
    have mz2:∀o,((H6.set rr o).length)=H6.length:=λo=>zz
    have mz3:∀o o2,((H6.set rr o).set (H.length+1) o2)[H.length+1]? =some o2:=λo o2=>aM4 (by simp;exact lG c4)
    ·
     repeat refine wS ?_
     refine iU 0 (n0:=H6.length) (by first|rfl| (simp only[aNo,aM7,aOa,Nat.reduceAdd,aNn,r2,r6,hdL,hdb,dQ,q2,q6,qr,b3,b4,b5,q2L,q6L,qrL,b3L,b4L,b5L,nz,nz0,nb1,nb2,ha,s2,s6,srow,c4,c5,gm,s2s,s6s,srs,c4s,c5s,mz,mz1,mz2,mz3];done)) (by kernel_rfl) ?_;refine eP 9 (by first|rfl| (simp only[aNo,aM7,aOa,Nat.reduceAdd,aNn,r2,r6,hdL,hdb,dQ,q2,q6,qr,b3,b4,b5,q2L,q6L,qrL,b3L,b4L,b5L,nz,nz0,nb1,nb2,ha,s2,s6,srow,c4,c5,gm,s2s,s6s,srs,c4s,c5s,mz,mz1,mz2,mz3];done)) (DQ (aG y3 pO fM aA aD aB (aG aC r2 r6 hdL hdb bG (aG q2 q6 qr b3 b4 b5 (aG q2L q6L qrL b3L b4L b5L (aG nz nz0 nb1 nb2 ha s2 (aG s6 srow c4 c5 gm s2s (aG s6s srs c4s c5s mz mz1 (aS mz2 mz3))))))))) z7 z7 z7 ?_;refine mR (by first| (simp only[LS,HS,aOe,aMl,aN7,r2,r6,hdL,hdb,dQ,q2,q6,qr,b3,b4,b5,q2L,q6L,qrL,b3L,b4L,b5L,nz,nz0,nb1,nb2,ha,s2,s6,srow,c4,c5,gm,s2s,s6s,srs,c4s,c5s,mz,mz1,mz2,mz3]<;>with_reducible rfl)|rfl) ?_;refine iO (bm:= [0,0,2,6,14,0,62,127,255,511]) (fresh:=(H6.length)) (by kernel_rfl) (JW (aG y3 aA aD aB aC r2 (aG r6 hdL hdb bG q2 q6 (aG qr b3 b4 b5 q2L q6L (aG qrL b3L b4L b5L nz nz0 (aG nb1 nb2 ha s2 s6 srow (aG c4 c5 gm s2s s6s srs (cF c4s c5s mz mz1 mz2 mz3)))))))) z7 (by repeat (first|exact fT.base _|with_reducible apply fT.keep|apply fT.drop)) ?_;refine aV (aG nU aA aD aB aC r2 (aG r6 hdL hdb bG q2 q6 (aG qr b3 b4 b5 q2L q6L (aG qrL b3L b4L b5L nz nz0 (aG nb1 nb2 ha s2 s6 srow (aG c4 c5 gm s2s s6s srs (cF c4s c5s mz mz1 mz2 mz3))))))) ?_
     repeat refine wS ?_
     refine wT (Or.inl ⟨.inr rfl,_,(gI 4 67 rfl pT z7 (JA (aG aA aD aB aC r2 r6 (aG hdL hdb bG q2 q6 qr (aG b3 b4 b5 q2L q6L qrL (aG b3L b4L b5L nz nz0 nb1 (aG nb2 ha s2 s6 srow c4 (aG c5 gm s2s s6s srs c4s (bL c5s mz mz1 mz2 mz3))))))))), ?_⟩);rw[hs5,hadd];exact⟨by rw[ho];rfl,F6, .inl ⟨rfl,tl6,(hR6.dur hx (by show min _ dd<=2;have:=hR6.d2;simp only at this;omega)).fr hx λid hid=>aM5 (λ(e:H.length+1=id)=>n61 (e▸hid))⟩,(f6.set hR6.mem.1 _).new z8 _⟩
   ·
    have ha:∀fr,cK ⟨true,3,24⟩ fr H5 (.slice (a.deps.map dQ) (.tok t)) (.slice [.agg [.int .i64 k1, .int .i64 k2, .int .i64 k3]] .full)=some (.slice (a.deps.map dQ++ [.agg [.int .i64 k1, .int .i64 k2, .int .i64 k3]]) (.tok t),some (t, .buf (a.deps.length+1) 3)):=λfr=>by have:=aFr a.deps (k1,k2,k3) fr t H5 .full ht (by simpa[NX]using hoa);simpa[dQ,aE]using this
    have htl:=lG ht;have nt1:(t==rr)=false:=by simpa using ht1
    have nt2:(rr==t)=false:=by simpa using Ne.symm ht1
    have nt3:(t=H5.length)=False:=by simp;omega
    have nt4:(rr=t)=False:=by simpa using Ne.symm ht1
    have nt5:(t=rr)=False:=by simpa using ht1
    have nt6:(t==x6)=false:=by simpa using ht3
    have nt7:(x6==t)=false:=by simpa using Ne.symm ht3
    have nt8:∀o,(H5.set t o)[x6]? =some (.row [.optr rr 0]):=λo=>bN q6 (Ne.symm ht3);have nt9:∀o,(H5.set t o)[rr]? =_:=λo=>bN qr (Ne.symm ht1)
    repeat refine wS ?_
    refine kP 0 (by kernel_rfl) ?_;refine pR (bm:= [0,0,2,6,14,0,32,126,255,511,1023]) (fresh:=(H5.length)) (by kernel_rfl) (EY (aG iB yA pO fM aA aD (aG aB aC r2 r6 hdL hdb (aG bG q2 q6 qr b3 b4 (aG b5 q2L q6L qrL b3L b4L (aG b5L nz nz0 nb1 nb2 ha (aG ht nt1 nt2 nt3 nt4 nt5 (bD nt6 nt7 nt8 nt9)))))))) z7 ?_;refine gQ [2,4,5,6] (aG aA aD aB aC r2 r6 (aG hdL hdb bG q2 q6 qr (aG b3 b4 b5 q2L q6L qrL (aG b3L b4L b5L nz nz0 nb1 (aG nb2 ha ht nt1 nt2 nt3 (cF nt4 nt5 nt6 nt7 nt8 nt9)))))) ?_;refine dI (λH6=>∃tl6 F6,iS cx L act rr x2 x6 now tl6 ⟨a.deps++ [(k1,k2,k3)],a.D⟩ st5 F6 H6/\dE F F6 H H6/\¬F6 (H.length+1)/\¬F6 (H.length+2)/\H6[H.length+1]? =some (.row [.slice [] .full, .str []])/\H6[H.length+2]? =some (.row [.slice (v.nums.map aE) .none, .str v.text])) (by have:=hR5.next hx (k1,k2,k3) (by simpa[NX]using hoa);simp only[pW,aN3,aNl,aOb,dQ,aE]at this;exact⟨.tok t,_,this,(f5.set (hR5.mem.2.2.2 t rfl) _).set hR5.mem.1 _,n1,n2,bN (bN b4 (λe=>n1 (e▸hR5.mem.2.2.2 t rfl))) (λe=>n1 (e▸hR5.mem.1)),bN (bN b5 (λe=>n2 (e▸hR5.mem.2.2.2 t rfl))) (λe=>n2 (e▸hR5.mem.1))⟩) ?_;rintro H6 ⟨tl6,F6,hR6,f6,n61,n62,c4,c5⟩;have hadd:a.add (k1,k2,k3) dd=⟨a.deps++ [(k1,k2,k3)],min a.D dd⟩:=by simp[xY.add,hnin]
    have gm:min ((a.D:Nat):Int) (dd:Int)=((min a.D dd:Nat):Int):=z8
    have s2:=hR6.b2;have s6:=hR6.b6;have srow:=hR6.row;simp only[pW]at srow;have hrl6:=lG srow;obtain⟨e61,e62,e63⟩:=hR6.ne;have s2s:∀o,(H6.set rr o)[x2]? =some (.row [.optr cx.ix.d 0]):=λo=>bN s2 (Ne.symm e61);have s6s:∀o,(H6.set rr o)[x6]? =some (.row [.optr rr 0]):=λo=>bN s6 (Ne.symm e62);have srs:∀o,(H6.set rr o)[rr]? =some o:=λo=>aM4 hrl6;have c4s:∀o,(H6.set rr o)[H.length+1]? =_:=λo=>bN c4 (λe=>n61 (e▸hR6.mem.1));have c5s:∀o,(H6.set rr o)[H.length+2]? =_:=λo=>bN c5 (λe=>n62 (e▸hR6.mem.1));have mz:(rr=H6.length)=False:=by simp;omega
    have mz1:(H.length+1=H6.length)=False:=by have:=lG c4;simp;omega
    have mz2:∀o,((H6.set rr o).length)=H6.length:=λo=>zz
    have mz3:∀o o2,((H6.set rr o).set (H.length+1) o2)[H.length+1]? =some o2:=λo o2=>aM4 (by simp;exact lG c4)
    ·
     repeat refine wS ?_
     refine iU 0 (n0:=H6.length) (by first|rfl| (simp only[aNo,aM7,aOa,Nat.reduceAdd,aNn,r2,r6,hdL,hdb,dQ,q2,q6,qr,b3,b4,b5,q2L,q6L,qrL,b3L,b4L,b5L,nz,nz0,nb1,nb2,ha,ht,nt1,nt2,nt3,nt4,nt5,nt6,nt7,nt8,nt9,s2,s6,srow,c4,c5,gm,s2s,s6s,srs,c4s,c5s,mz,mz1,mz2,mz3];done)) (by kernel_rfl) ?_;refine eP 9 (by first|rfl| (simp only[aNo,aM7,aOa,Nat.reduceAdd,aNn,r2,r6,hdL,hdb,dQ,q2,q6,qr,b3,b4,b5,q2L,q6L,qrL,b3L,b4L,b5L,nz,nz0,nb1,nb2,ha,ht,nt1,nt2,nt3,nt4,nt5,nt6,nt7,nt8,nt9,s2,s6,srow,c4,c5,gm,s2s,s6s,srs,c4s,c5s,mz,mz1,mz2,mz3];done)) (DQ (aG y3 pO fM aA aD aB (aG aC r2 r6 hdL hdb bG (aG q2 q6 qr b3 b4 b5 (aG q2L q6L qrL b3L b4L b5L (aG nz nz0 nb1 nb2 ha ht (aG nt1 nt2 nt3 nt4 nt5 nt6 (aG nt7 nt8 nt9 s2 s6 srow (aG c4 c5 gm s2s s6s srs (cF c4s c5s mz mz1 mz2 mz3)))))))))) z7 z7 z7 ?_;refine mR (by first| (simp only[LS,HS,aOe,aMl,aN7,r2,r6,hdL,hdb,dQ,q2,q6,qr,b3,b4,b5,q2L,q6L,qrL,b3L,b4L,b5L,nz,nz0,nb1,nb2,ha,ht,nt1,nt2,nt3,nt4,nt5,nt6,nt7,nt8,nt9,s2,s6,srow,c4,c5,gm,s2s,s6s,srs,c4s,c5s,mz,mz1,mz2,mz3]<;>with_reducible rfl)|rfl) ?_;refine iO (bm:= [0,0,2,6,14,0,62,127,255,511]) (fresh:=(H6.length)) (by kernel_rfl) (JW (aG y3 aA aD aB aC r2 (aG r6 hdL hdb bG q2 q6 (aG qr b3 b4 b5 q2L q6L (aG qrL b3L b4L b5L nz nz0 (aG nb1 nb2 ha ht nt1 nt2 (aG nt3 nt4 nt5 nt6 nt7 nt8 (aG nt9 s2 s6 srow c4 c5 (aG gm s2s s6s srs c4s c5s (bD mz mz1 mz2 mz3)))))))))) z7 (by repeat (first|exact fT.base _|with_reducible apply fT.keep|apply fT.drop)) ?_;refine aV (aG nU aA aD aB aC r2 (aG r6 hdL hdb bG q2 q6 (aG qr b3 b4 b5 q2L q6L (aG qrL b3L b4L b5L nz nz0 (aG nb1 nb2 ha ht nt1 nt2 (aG nt3 nt4 nt5 nt6 nt7 nt8 (aG nt9 s2 s6 srow c4 c5 (aG gm s2s s6s srs c4s c5s (bD mz mz1 mz2 mz3))))))))) ?_
     repeat refine wS ?_
     refine wT (Or.inl ⟨.inr rfl,_,(gI 4 67 rfl pT z7 (JA (aG aA aD aB aC r2 r6 (aG hdL hdb bG q2 q6 qr (aG b3 b4 b5 q2L q6L qrL (aG b3L b4L b5L nz nz0 nb1 (aG nb2 ha ht nt1 nt2 nt3 (aG nt4 nt5 nt6 nt7 nt8 nt9 (aG s2 s6 srow c4 c5 gm (aG s2s s6s srs c4s c5s mz (bR mz1 mz2 mz3))))))))))), ?_⟩);rw[hs5,hadd];exact⟨by rw[ho];rfl,F6, .inl ⟨rfl,tl6,(hR6.dur hx (by show min _ dd<=2;have:=hR6.d2;simp only at this;omega)).fr hx λid hid=>aM5 (λ(e:H.length+1=id)=>n61 (e▸hid))⟩,(f6.set hR6.mem.1 _).new z8 _⟩
  ·
   have hin:(k1,k2,k3)∈a.deps:=by simpa using bt39
   repeat refine wS ?_
   refine wK ?_;refine dI (λH6=>∃tl6 F6,iS cx L act rr x2 x6 now tl6 ⟨a.deps,a.D⟩ st5 F6 H6/\dE F F6 H H6/\¬F6 (H.length+1)/\¬F6 (H.length+2)/\H6[H.length+1]? =some (.row [.slice [] .full, .str []])/\H6[H.length+2]? =some (.row [.slice (v.nums.map aE) .none, .str v.text])) (⟨tl,_,hR5,f5,n1,n2,b4,b5⟩) ?_;rintro H6 ⟨tl6,F6,hR6,f6,n61,n62,c4,c5⟩;have hadd:a.add (k1,k2,k3) dd=⟨a.deps,min a.D dd⟩:=by simp[xY.add,hin]
   have gm:min ((a.D:Nat):Int) (dd:Int)=((min a.D dd:Nat):Int):=z8
   have s2:=hR6.b2;have s6:=hR6.b6;have srow:=hR6.row;simp only[pW]at srow;have hrl6:=lG srow;obtain⟨e61,e62,e63⟩:=hR6.ne;have s2s:∀o,(H6.set rr o)[x2]? =some (.row [.optr cx.ix.d 0]):=λo=>bN s2 (Ne.symm e61);have s6s:∀o,(H6.set rr o)[x6]? =some (.row [.optr rr 0]):=λo=>bN s6 (Ne.symm e62);have srs:∀o,(H6.set rr o)[rr]? =some o:=λo=>aM4 hrl6;have c4s:∀o,(H6.set rr o)[H.length+1]? =_:=λo=>bN c4 (λe=>n61 (e▸hR6.mem.1));have c5s:∀o,(H6.set rr o)[H.length+2]? =_:=λo=>bN c5 (λe=>n62 (e▸hR6.mem.1));have mz:(rr=H6.length)=False:=by simp;omega
   have mz1:(H.length+1=H6.length)=False:=by have:=lG c4;simp;omega
   have mz2:∀o,((H6.set rr o).length)=H6.length:=λo=>zz
   have mz3:∀o o2,((H6.set rr o).set (H.length+1) o2)[H.length+1]? =some o2:=λo o2=>aM4 (by simp;exact lG c4)
   ·
    repeat refine wS ?_
    refine iU 0 (n0:=H6.length) (by first|rfl| (simp only[aNo,aM7,aOa,Nat.reduceAdd,aNn,r2,r6,hdL,hdb,dQ,q2,q6,qr,b3,b4,b5,q2L,q6L,qrL,b3L,b4L,b5L,nz,nz0,nb1,nb2,s2,s6,srow,c4,c5,gm,s2s,s6s,srs,c4s,c5s,mz,mz1,mz2,mz3];done)) (by kernel_rfl) ?_;refine eP 9 (by first|rfl| (simp only[aNo,aM7,aOa,Nat.reduceAdd,aNn,r2,r6,hdL,hdb,dQ,q2,q6,qr,b3,b4,b5,q2L,q6L,qrL,b3L,b4L,b5L,nz,nz0,nb1,nb2,s2,s6,srow,c4,c5,gm,s2s,s6s,srs,c4s,c5s,mz,mz1,mz2,mz3];done)) (DQ (aG y3 pO fM aA aD aB (aG aC r2 r6 hdL hdb bG (aG q2 q6 qr b3 b4 b5 (aG q2L q6L qrL b3L b4L b5L (aG nz nz0 nb1 nb2 s2 s6 (aG srow c4 c5 gm s2s s6s (aG srs c4s c5s mz mz1 mz2 mz3)))))))) z7 z7 z7 ?_;refine mR (by first| (simp only[LS,HS,aOe,aMl,aN7,r2,r6,hdL,hdb,dQ,q2,q6,qr,b3,b4,b5,q2L,q6L,qrL,b3L,b4L,b5L,nz,nz0,nb1,nb2,s2,s6,srow,c4,c5,gm,s2s,s6s,srs,c4s,c5s,mz,mz1,mz2,mz3]<;>with_reducible rfl)|rfl) ?_;refine iO (bm:= [0,0,2,6,14,0,62,127,255,511]) (fresh:=(H6.length)) (by kernel_rfl) (JW (aG y3 aA aD aB aC r2 (aG r6 hdL hdb bG q2 q6 (aG qr b3 b4 b5 q2L q6L (aG qrL b3L b4L b5L nz nz0 (aG nb1 nb2 s2 s6 srow c4 (aG c5 gm s2s s6s srs c4s (bL c5s mz mz1 mz2 mz3)))))))) z7 (by repeat (first|exact fT.base _|with_reducible apply fT.keep|apply fT.drop)) ?_;refine gQ [4,5] (aG aA aD aB aC r2 r6 (aG hdL hdb bG q2 q6 qr (aG b3 b4 b5 q2L q6L qrL (aG b3L b4L b5L nz nz0 nb1 (aG nb2 s2 s6 srow c4 c5 (aG gm s2s s6s srs c4s c5s (bD mz mz1 mz2 mz3))))))) ?_;refine aV (aG nU aA aD aB aC r2 (aG r6 hdL hdb bG q2 q6 (aG qr b3 b4 b5 q2L q6L (aG qrL b3L b4L b5L nz nz0 (aG nb1 nb2 s2 s6 srow c4 (aG c5 gm s2s s6s srs c4s (bL c5s mz mz1 mz2 mz3))))))) ?_
    repeat refine wS ?_
    refine wT (Or.inl ⟨.inr rfl,_,(gI 4 67 rfl pT z7 (JA (aG aA aD aB aC r2 r6 (aG hdL hdb bG q2 q6 qr (aG b3 b4 b5 q2L q6L qrL (aG b3L b4L b5L nz nz0 nb1 (aG nb2 s2 s6 srow c4 c5 (aG gm s2s s6s srs c4s c5s (bD mz mz1 mz2 mz3))))))))), ?_⟩);rw[hs5,hadd];exact⟨by rw[ho];rfl,F6, .inl ⟨rfl,tl6,(hR6.dur hx (by show min _ dd<=2;have:=hR6.d2;simp only at this;omega)).fr hx λid hid=>aM5 (λ(e:H.length+1=id)=>n61 (e▸hid))⟩,(f6.set hR6.mem.1 _).new z8 _⟩
end Go.Abs
namespace Go.Abs
open Go.Proofs Go.Memo
theorem dD(n:Int):IntKind.i64.wrap n=wrap64 n:=by
 rw[Go.IntKind.wrap_i64];rfl
section
variable{cx:Cx}(hx:oA cx){loc L:QK->Nat}{act:List QK}{rr x2 x6 now:Nat}{tl:bE}{a:xY}{st:St}{b:Bool}{G F:eL}{H:aH}
include hx
omit hx in
theorem WR.stopped{H1:aH}{b':Bool}(h:WR cx loc act st b G H)(f:dE cx.FX cx.FX H H1)(hI:cx.I b' H1):WR cx loc act st b' G H1/\dE G G H H1:=by
 obtain⟨F,h1,h2,h3,rfl,h4⟩:=h;refine⟨⟨F,h1.fr λid hi=>f.same id (h1.lt id hi) (h3 id hi),hI,h3,rfl,λe he=>⟨?_,(h4 e he).2⟩⟩,f.len,λid h5 h6=>f.same id h5 λh7=>h6 (.inr (.inl h7)),λid hi _=>hi⟩;rw[f.same e.1 (lG (h4 e he).1) (h4 e he).2.2];exact(h4 e he).1
theorem iS.start(h:WR cx loc act st false G H)(b2:H[x2]? =some (.row [.optr cx.ix.d 0]))(n2:¬G x2):
  iS cx loc act H.length x2 (H.length+1) st.now .full ⟨[],2⟩ st (λid=>G id\/id=H.length\/id=x2\/id=H.length+1\/bE.full= .tok id) (H++ [pW st.now ⟨[],2⟩ .full, .row [.optr H.length 0]]):=by
 have hl:=h.lt hx;have h2:=lG b2;refine⟨⟨loc,G,h.app hx _,λ_ _=>rfl,λhg=> ?_,n2,λhg=> ?_,(λt e=>by cases e),rfl⟩,zz,bU b2 _,zz,⟨z8,z8,z8⟩, .inl ⟨rfl,rfl⟩,aMq _,aNs _⟩
 ·have:=hl _ hg;omega
 ·have:=hl _ hg;omega
theorem iS.finish(h:iS cx L act rr x2 x6 now tl a st F H){k:QK}{v:QV}{c:Nat}(hv:FI v=true){H5:aH}(hs:∀id,id≠rr->H5[id]? =H[id]?)(hl5:H5.length=H.length)(hr:H5[rr]? =some (.row (oR ⟨v,now,c,a.D,a.deps⟩ tl 0)))
  {es:List GE} {clk:Nat} (hm:H5[cx.ix.m]? =some (.obj (.mapg es clk))) (n clock:Int) (hck:clock=wrap64 (st.clk:Int)):
  ∃loc' G',WR cx loc' act {st with res:=eQ st.res k (some ⟨v,now,c,a.D,a.deps⟩),comps:=n} false G' ((H5.set cx.ix.m (.obj (.mapg (sE es clk k (.optr rr 0)) (vS es clk k)))).set cx.ix.d (.row [cx.ix.cf, .optr cx.ix.s 0, .mapp cx.ix.m, .mapp cx.ix.a,cx.ix.stp,aE n,aE clock]))/\
   loc' k=rr/\(∀q∈act,q≠k->loc' q=L q)/\∀id,G' id->F id:=by
 obtain⟨loc,G,⟨F0,D,hI,hdis,hG,henv⟩,hL,nr,_,_,_,hF⟩:=h.w;have nrF:¬F0 rr:=λhf=>nr (by rw[hG];exact .inl hf);have nrX:¬cx.FX rr:=λhf=>nr (by rw[hG];exact .inr (.inl hf));have nrE:∀e∈cx.env,e.1≠rr:=λe he e2=>nr (by rw[hG];exact .inr (.inr ⟨e,he,e2⟩));have D1:sR cx.ix loc act st F0 H5:=D.fr λid hi=>hs id λe=>nrF (e▸hi);have D2:=D1.put hm k hr nrF (by simpa[FI]using hv) h.dl h.d2 ⟨0,aNs _,rfl⟩;have D3:=D2.dbrow cx.ix.stp n clock st.clk (aMq _) hck;obtain⟨o1,o2,o3,o4,o5⟩:=D.own;have hset:∀id,id≠rr->¬F0 id->∀o o2,((H5.set cx.ix.m o).set cx.ix.d o2)[id]? =H[id]? :=λid h1 h2 o o2=>by
  rw[aM5 (by rintro rfl;exact h2 o1),aM5 (by rintro rfl;exact h2 o3)];exact hs id h1
 refine⟨_,_,⟨_,D3,hx.istab _ _ _ hI λid hi=>hset id (λe=>nrX (e▸hi)) (λhf=>hdis id hf hi) _ _, ?_,rfl,λe he=>⟨?_, ?_⟩⟩,if_pos rfl,λq hq hn=>(if_neg hn).trans (hL q hq), ?_⟩
 ·rintro id (hi|rfl)
  ·exact hdis id hi
  ·exact nrX
 ·rw[hset e.1 (nrE e he) (henv e he).2.1];exact(henv e he).1
 ·exact⟨λhf=>hf.elim (henv e he).2.1 (nrE e he),(henv e he).2.2⟩
 ·rintro id ((hi|rfl)|hi|hi)
  ·rw[hF,hG];exact .inl (.inl hi)
  ·exact h.mem.1
  ·rw[hF,hG];exact .inl (.inr (.inl hi))
  ·rw[hF,hG];exact .inl (.inr (.inr hi))
end
end Go.Abs
set_option maxRecDepth 4000
set_option maxHeartbeats 1000000
namespace Go.Abs
open Go.Proofs Go.Memo
theorem aAn(a b:QV)(h1:a.nums=b.nums)(h2:a.text=b.text):a=b:=by
 cases a;cases b;cases h1;cases h2;rfl
theorem zF{cx:Cx}(hx:oA cx){u:List QK->QK->St->qS gU}(hu:TC u)(hU:IW cx u)(act:List QK)(k:QK)(hk:k.1≠0)(hka:k∉act)(loc:QK->Nat)(st:St)(G:eL)(H:aH)(o:Option gU)(st':St)(hm:oI (u (k::act)) cx.stpf cx.cp k st=some (o,st'))(hW:WR cx loc (k::act) st false G H):nE Tryz.prog zT 121 [.optr cx.ix.d 0,dQ k] H (λr H'=>∃rec loc' G',o=some rec/\r= .optr (loc' k) 0/\WR cx loc' (k::act) st' false G' H'/\dE G G' H H'/\∀q∈act,loc' q=loc q) (λH'=>o=none/\∃loc' act' G',WR cx loc' act' st' true G' H'/\dE G G' H H'):=by
 obtain⟨F,D,hI,hdis,hG,henv⟩:=id hW;obtain⟨clock,hdb⟩:=D.db;have hdL:=bU hdb;have hlt:=hW.lt hx;obtain⟨k1,k2,k3⟩:=k;unfold oI at hm;refine iY (N:=93) Tryz.func121 rfl rfl zz λhb'=> ?_;refine aV (aG qV iB aA aD aB aC (bR hdL hdb bG)) ?_
 repeat refine wS ?_
 refine nP (σ:=Unit) (λ(z:Unit)=> [(2, .optr H.length 0),(3, .optr (H.length+1) 0),(19, .bool (cx.stpf st.comps))]) (λ(z:Unit)=>λH1=>WR cx loc ((k1,k2,k3)::act) st (cx.stpf st.comps) G H1/\dE G G H H1/\H1[H.length]? =some (.row [.optr cx.ix.d 0])/\H1[H.length+1]? =some (.row [aE k1,aE k2,aE k3])) ?_ ?_
 ·
  rcases hx.stop with⟨hs1,hs2⟩| ⟨f,caps,hs1,hgo,hs⟩
  ·
   refine eA 4 (aG y23 qV rK aA aD aB (bL aC hdL hdb bG hs1)) ?_;refine rR (op:=.neq) rfl (.inr rfl) (bP eO) z7 Tryz.underlying23 (f:=.func 0) (pf:= []) (pc:= []) (v:=true) (.inr ⟨dW (bL aA aD aB aC hs1),rfl⟩) ?_;refine DS 5 (aG y23 qV rK aA aD aB (bL aC hdL hdb bG hs1)) ?_;refine yO (bP eO) ?_;refine bH (aG aA aD aB aC hdL hdb (aS bG hs1)) ?_;exact⟨(),by rw[hs2];repeat (first|exact trivial|refine⟨rfl, ?_⟩),by rw[hs2];exact hW.app hx _,dE.app _ _ _ hlt,zz,zz⟩
  ·
   refine eA 4 (aG y23 qV rK aA aD aB (bL aC hdL hdb bG hs1)) ?_;refine rR (op:=.neq) rfl (.inr rfl) (bP eO) z7 Tryz.underlying23 (v:=false) (.inl ⟨dW (bL aA aD aB aC hs1),rfl⟩) ?_;refine DS 5 (aG y23 qV rK aA aD aB (bL aC hdL hdb bG hs1)) ?_;obtain⟨FA,DA,hIA,hdA,hGA,heA⟩:=hW.app hx [AObj.row [PV.optr cx.ix.d 0],AObj.row [PV.int .i64 k1, .int .i64 k2, .int .i64 k3]];refine oC (dW eO) (bP eO) z7 hgo (hs loc _ st FA _ DA hIA hdA) ?_;rintro _ H1 ⟨rfl,hI1,f1⟩;obtain⟨W1,g1⟩:=(hW.app hx _).stopped f1 hI1;have c2:¬cx.FX H.length:=λh=>by have:=hx.ilt _ _ hI _ h;omega
   have c3:¬cx.FX (H.length+1):=λh=>by have:=hx.ilt _ _ hI _ h;omega
   refine bH (aG aA aD aB aC hdL hdb (aS bG hs1)) ?_;exact⟨(),by repeat (first|exact trivial|refine⟨rfl, ?_⟩),W1,g1.of_app,(f1.get zz c2).1,(f1.get zz c3).1⟩
 ·intro z H1 hg;obtain⟨W1,f1,b2,b3⟩:=hg;cases hsb:cx.stpf st.comps with
  |true=>
   rw[if_pos hsb]at hm;injection hm with hm;injection hm with h1 h2;subst h1;subst h2;rw[hsb]at W1;refine VV (bD aA aD aB aC) ?_;refine eA 1 (bL aGf aA aD aB aC) ?_;refine KK (n:=12) rfl (bP eO) z7 Tryz.underlying163 zz (dW eO) ?_;refine OG rfl (bP eO) z7 (dW eO) ?_;exact Or.inr ⟨rfl,rfl,loc,_,G,W1,f1⟩
  |false=> ?_
  rw[hsb]at W1;rw[if_neg (by rw[hsb];simp)]at hm;obtain⟨F1,D1,_⟩:=id W1;have hsto:=D1.sto;have nG0:¬G H.length:=λh=>by have:=hlt _ h;omega
  have nG1:¬G (H.length+1):=λh=>by have:=hlt _ h;omega
  have b2L:=bU b2;obtain⟨clock1,hdb1⟩:=D1.db;have hd1L:=bU hdb1;refine pJ (aG aA aD aB aC hdL hdb (aG bG b2 b3 b2L hdb1 hd1L hsb)) ?_
  repeat refine wS ?_
  refine wK ?_;refine eA 4 (aG qV y85 rK aA aD aB (aG aC hdL hdb bG b2 b3 (bR b2L hdb1 hd1L))) ?_;refine qT (aG aA aD aB aC hdL hdb (cF bG b2 b3 b2L hdb1 hd1L)) PN (wE hsto) ?_;refine bH (aG aA aD aB aC hdL hdb (cF bG b2 b3 b2L hdb1 hd1L)) ?_;refine aV (aG pO fM aA aD aB aC (aG hdL hdb bG b2 b3 b2L (aS hdb1 hd1L))) ?_;obtain⟨F2,hF2⟩:∃F2:eL,F2=λid=>G id\/id=H1.length\/id=H.length\/id=H1.length+1\/bE.full= .tok id:=⟨_,rfl⟩;refine dI (λH2=>iS cx loc ((k1,k2,k3)::act) H1.length H.length (H1.length+1) st.now .full ⟨[],2⟩ st F2 H2/\dE G F2 H H2/\H2[H.length+1]? =some (.row [aE k1,aE k2,aE k3])/\H1.length<H2.length/\∀e∈cx.env,H2[e.1]? =some e.2) ⟨by rw[hF2];exact iS.start hx W1 b2 nG0, ?_,by exact bU b3 _,zz,λe he=>by obtain⟨_,_,_,_,_,h6⟩:=W1;exact bU (h6 e he).1 _⟩ ?_
  ·refine(f1.upd zz λid hid=>aM0 (aMs hid f1.len)).more λid hi=> ?_;rw[hF2]at hi;have h0:=f1.len;rcases hi with hi|hi|hi|hi|hi
   ·exact .inl hi
   ·exact .inr z8
   ·exact .inr z8
   ·exact .inr z8
   ·cases hi
  rintro H2 ⟨R2,f02,skey,hl12,henv2⟩;have s2:=R2.b2;have s6:=R2.b6;have srow:=R2.row;simp only[pW,aOb]at srow;obtain⟨loc2,G2,W2,_⟩:=R2.w;obtain⟨_,D2,_⟩:=W2;obtain⟨clock2,hdb2⟩:=D2.db;obtain⟨fc,cc,hcf,hfc,hcall⟩:=hx.comp;obtain⟨o1,a1,st1,hrun0,hcs⟩:∃o1 a1 st1,lL (mB (u ((k1,k2,k3)::act))) (cx.cp (k1,k2,k3)) (⟨[],2⟩,st)=some (o1,(a1,st1))/\((o1=none/\o=none/\st'=st1)\/∃v,o1=some v/\FI v=true/\o=some ⟨v,st.now,tP (st1.res (k1,k2,k3)) st.now a1.D v,a1.D,a1.deps⟩/\st'= {st1 with res:=eQ st1.res (k1,k2,k3) (some ⟨v,st.now,tP (st1.res (k1,k2,k3)) st.now a1.D v,a1.D,a1.deps⟩),comps:=wrap64 (st1.comps+1)}):=by
   split at hm
   ·cases hm
   ·rename_i s h1;injection hm with hm;injection hm with h2 h3;exact⟨none,s.1,s.2,h1, .inl ⟨rfl,h2.symm,h3.symm⟩⟩
   ·rename_i v s h1
    split at hm
    ·rename_i hv;injection hm with hm;injection hm with h2 h3;exact⟨some v,s.1,s.2,h1, .inr ⟨v,rfl,hv,h2.symm,h3.symm⟩⟩
    ·cases hm
  have hrun:=aD7 _ _ _ _ hrun0;have hget:=aEw hx hu hU loc ((k1,k2,k3)::act) H1.length H.length (H1.length+1) st.now;have hvl:∀v,o1=some v->v.nums.length*8<=2^47:=λv hv=>by
   rcases hcs with⟨h,_⟩| ⟨v2,h,h2,_⟩
   ·rw[hv]at h;cases h
   ·rw[hv]at h;injection h with h;subst h;exact UG (by simpa[FI]using h2)
  ·
   repeat refine wS ?_
   refine LN (λe T Hz=>(e= .normal/\∃v tl F4 H4,o1=some v/\oH T [(2, .optr H.length 0),(3, .optr (H.length+1) 0),(6, .optr (H1.length+1) 0)]/\iS cx loc ((k1,k2,k3)::act) H1.length H.length (H1.length+1) st.now tl a1 st1 F4 H4/\dE F2 F4 H2 H4/\Hz=H4.set H1.length (.row [.slice (v.nums.map aE) .none, .str v.text,aE (st.now:Int),aE (st.now:Int),aE (a1.D:Int), .slice (a1.deps.map dQ) tl,aE 0]))\/(e= .panic zT/\∃F4,o1=none/\JG cx loc ((k1,k2,k3)::act) H1.length H.length (H1.length+1) st.now ((a1,st1),o1.isNone) F4 Hz/\dE F2 F4 H2 Hz)) (by kernel_rfl) (λopr R' hops hR=> ?_) (λe T' H5 hr=> ?_)
   ·have p511:∀(v:QV) (tl:bE) (F4:eL) (H4:aH),o1=some v->iS cx loc ((k1,k2,k3)::act) H1.length H.length (H1.length+1) st.now tl a1 st1 F4 H4->dE F2 F4 H2 H4->H4[H1.length+1]? =some (.row [.optr H1.length 0])->H4[H1.length]? =some (.row [.slice [] .full, .str [],aE (st.now:Int),aE (st.now:Int),aE (a1.D:Int), .slice (a1.deps.map dQ) tl,aE 0])->(H1.length=H4.length)=False->v.nums.length*8<=2^47->kN Tryz.prog 93 H.length opr R' 3 #[true,true,true,true,true,true,true,true,true,false,false,false] (gM [(2, .optr H.length 0),(3, .optr (H.length+1) 0),(6, .optr (H1.length+1) 0),(31, .optr H1.length 0),(32, .optr cx.ix.d 0),(33, .optr cx.ix.d 0),(34, .optr cx.ix.d 0),(35, .fn (.func fc) [] cc),(36, .agg [aE k1,aE k2,aE k3]),(37, .fn (.func 134) [] [.optr H.length 0, .optr (H1.length+1) 0]),(38,qN v),(39, .agg [.slice (v.nums.map aE) .none, .str v.text])]) H4:=by
     subst hops;intro v tl F4 H4 hov R4 f4 d6 dr nz4 hvl;refine OO 9 rfl (aY (m:= [(2, .optr H.length 0),(3, .optr (H.length+1) 0),(6, .optr (H1.length+1) 0),(31, .optr H1.length 0),(32, .optr cx.ix.d 0),(33, .optr cx.ix.d 0),(34, .optr cx.ix.d 0),(35, .fn (.func fc) [] cc),(36, .agg [aE k1,aE k2,aE k3]),(37, .fn (.func 134) [] [.optr H.length 0, .optr (H1.length+1) 0]),(38,qN v),(39, .agg [.slice (v.nums.map aE) .none, .str v.text]),(40, .optr H1.length 0)]) (fI (aG aA aD aB aC d6 dr nz4)) ?_);refine OO 10 rfl (aY (m:= [(2, .optr H.length 0),(3, .optr (H.length+1) 0),(6, .optr (H1.length+1) 0),(31, .optr H1.length 0),(32, .optr cx.ix.d 0),(33, .optr cx.ix.d 0),(34, .optr cx.ix.d 0),(35, .fn (.func fc) [] cc),(36, .agg [aE k1,aE k2,aE k3]),(37, .fn (.func 134) [] [.optr H.length 0, .optr (H1.length+1) 0]),(38,qN v),(39, .agg [.slice (v.nums.map aE) .none, .str v.text]),(40, .optr H1.length 0),(41, .optr H1.length 0)]) (fI (aG pO aA aD aB aC d6 (aS dr nz4))) ?_);refine OO 11 rfl (aY (m:= [(2, .optr H.length 0),(3, .optr (H.length+1) 0),(6, .optr (H1.length+1) 0)]) (fI (aG nU aA aD aB aC d6 (aS dr nz4))) (RU ?_));rw[hR];exact Or.inl ⟨rfl,v,tl,F4,H4,hov,by repeat (first|exact trivial|refine⟨rfl, ?_⟩),R4,f4,rfl⟩
    have p510:∀(v:QV) (tl:bE) (F4:eL) (H4:aH),o1=some v->iS cx loc ((k1,k2,k3)::act) H1.length H.length (H1.length+1) st.now tl a1 st1 F4 H4->dE F2 F4 H2 H4->H4[H1.length+1]? =some (.row [.optr H1.length 0])->H4[H1.length]? =some (.row [.slice [] .full, .str [],aE (st.now:Int),aE (st.now:Int),aE (a1.D:Int), .slice (a1.deps.map dQ) tl,aE 0])->(H1.length=H4.length)=False->v.nums.length*8<=2^47->kN Tryz.prog 93 H.length opr R' 4 #[false,true,true,true,true,true,true,true,true,false,false,false] (gM [(2, .optr H.length 0),(3, .optr (H.length+1) 0),(6, .optr (H1.length+1) 0),(32, .optr cx.ix.d 0),(33, .optr cx.ix.d 0),(34, .optr cx.ix.d 0),(35, .fn (.func fc) [] cc),(36, .agg [aE k1,aE k2,aE k3]),(37, .fn (.func 134) [] [.optr H.length 0, .optr (H1.length+1) 0]),(38,qN v),(39, .agg [.slice (v.nums.map aE) .none, .str v.text])]) H4:=by
     subst hops;intro v tl F4 H4 hov R4 f4 d6 dr nz4 hvl;refine OO 0 rfl (aY (fI (aG fM aA aD aB aC d6 (aS dr nz4))) (p511 v tl F4 H4 hov R4 f4 d6 dr nz4 hvl))
    have p255:∀(v:QV) (tl:bE) (F4:eL) (H4:aH),o1=some v->iS cx loc ((k1,k2,k3)::act) H1.length H.length (H1.length+1) st.now tl a1 st1 F4 H4->dE F2 F4 H2 H4->H4[H1.length+1]? =some (.row [.optr H1.length 0])->H4[H1.length]? =some (.row [.slice [] .full, .str [],aE (st.now:Int),aE (st.now:Int),aE (a1.D:Int), .slice (a1.deps.map dQ) tl,aE 0])->(H1.length=H4.length)=False->v.nums.length*8<=2^47->kN Tryz.prog 93 H.length opr R' 4 #[true,true,true,true,true,true,true,true,false,false,false,false] (gM [(2, .optr H.length 0),(3, .optr (H.length+1) 0),(6, .optr (H1.length+1) 0),(31, .optr H1.length 0),(32, .optr cx.ix.d 0),(33, .optr cx.ix.d 0),(34, .optr cx.ix.d 0),(35, .fn (.func fc) [] cc),(36, .agg [aE k1,aE k2,aE k3]),(37, .fn (.func 134) [] [.optr H.length 0, .optr (H1.length+1) 0]),(38,qN v)]) H4:=by
     subst hops;intro v tl F4 H4 hov R4 f4 d6 dr nz4 hvl;refine OO 8 rfl ?_
     ·refine oP (dW (bL aA aD aB aC fY)) (bP eO) z7 GY (AM v.nums v.text hvl _) ?_;refine oN ?_;exact(p511 v tl F4 H4 hov R4 f4 d6 dr nz4 hvl).weak (cO (by repeat (first|exact trivial|refine⟨rfl, ?_⟩)))
    have p254:∀(v:QV) (tl:bE) (F4:eL) (H4:aH),o1=some v->iS cx loc ((k1,k2,k3)::act) H1.length H.length (H1.length+1) st.now tl a1 st1 F4 H4->dE F2 F4 H2 H4->H4[H1.length+1]? =some (.row [.optr H1.length 0])->H4[H1.length]? =some (.row [.slice [] .full, .str [],aE (st.now:Int),aE (st.now:Int),aE (a1.D:Int), .slice (a1.deps.map dQ) tl,aE 0])->(H1.length=H4.length)=False->v.nums.length*8<=2^47->kN Tryz.prog 93 H.length opr R' 5 #[false,true,true,true,true,true,true,true,false,false,false,false] (gM [(2, .optr H.length 0),(3, .optr (H.length+1) 0),(6, .optr (H1.length+1) 0),(32, .optr cx.ix.d 0),(33, .optr cx.ix.d 0),(34, .optr cx.ix.d 0),(35, .fn (.func fc) [] cc),(36, .agg [aE k1,aE k2,aE k3]),(37, .fn (.func 134) [] [.optr H.length 0, .optr (H1.length+1) 0]),(38,qN v)]) H4:=by
     subst hops;intro v tl F4 H4 hov R4 f4 d6 dr nz4 hvl;refine FL 0 8 rfl rfl (aY (fI (aG fM aA aD aB aC d6 (aS dr nz4))) (p255 v tl F4 H4 hov R4 f4 d6 dr nz4 hvl)) ?_
     ·refine oP (dW (bL aA aD aB aC fY)) (bP eO) z7 GY (AM v.nums v.text hvl _) ?_;refine oN ?_;exact(p510 v tl F4 H4 hov R4 f4 d6 dr nz4 hvl).weak (cO (by repeat (first|exact trivial|refine⟨rfl, ?_⟩)))
    have g127:kN Tryz.prog 93 H.length opr R' 5 #[true,true,true,true,true,true,true,false,false,false,false,false] (gM [(2, .optr H.length 0),(3, .optr (H.length+1) 0),(6, .optr (H1.length+1) 0),(31, .optr H1.length 0),(32, .optr cx.ix.d 0),(33, .optr cx.ix.d 0),(34, .optr cx.ix.d 0),(35, .fn (.func fc) [] cc),(36, .agg [aE k1,aE k2,aE k3]),(37, .fn (.func 134) [] [.optr H.length 0, .optr (H1.length+1) 0])]) H2:=by
     subst hops;refine OO 7 rfl ?_
     ·refine gN (dW eO) (bP eO) z7 hfc (hcall _ _ _ _ hget (k1,k2,k3) _ F2 H2 o1 _ hk hrun (.inl ⟨rfl, .full,R2⟩) henv2) ?_ ?_
      ·rintro rv H4 ⟨ho,F4,j4,f4⟩;obtain⟨v,hv⟩:∃v,o1=some v:=by
        cases o1 with
        |none=>cases ho
        |some v=>exact⟨v,rfl⟩
       rw[hv]at ho;injection ho with ho;subst ho;obtain⟨_,tl,R4⟩:=j4.resolve_right (λh=>by rw[hv]at h;cases h.1);simp only at R4;have hrow:=R4.row;refine oN ?_;have hp:=p255 v tl F4 H4 hv R4 f4 R4.b6 hrow (by have:=lG hrow;simp;omega) (hvl v hv);exact hp.weak (cO (by
        try simp only[aMl,aN7]
        repeat (first|exact trivial|refine⟨rfl, ?_⟩)))
      ·rintro H4 ⟨ho,F4,j4,f4⟩;have hv:o1=none:=by
        cases o1 with
        |none=>rfl
        |some v=>cases ho
       show R' (.panic zT) _ H4;rw[hR];exact Or.inr ⟨rfl,F4,hv,j4,f4⟩
    have g126:kN Tryz.prog 93 H.length opr R' 6 #[false,true,true,true,true,true,true,false,false,false,false,false] (gM [(2, .optr H.length 0),(3, .optr (H.length+1) 0),(6, .optr (H1.length+1) 0),(32, .optr cx.ix.d 0),(33, .optr cx.ix.d 0),(34, .optr cx.ix.d 0),(35, .fn (.func fc) [] cc),(36, .agg [aE k1,aE k2,aE k3]),(37, .fn (.func 134) [] [.optr H.length 0, .optr (H1.length+1) 0])]) H2:=by
     subst hops;refine FL 0 7 rfl rfl (aY (fI (aG fM aA aD aB aC s2 (bL s6 skey srow hdb2 hcf))) g127) ?_
     ·refine gN (dW eO) (bP eO) z7 hfc (hcall _ _ _ _ hget (k1,k2,k3) _ F2 H2 o1 _ hk hrun (.inl ⟨rfl, .full,R2⟩) henv2) ?_ ?_
      ·rintro rv H4 ⟨ho,F4,j4,f4⟩;obtain⟨v,hv⟩:∃v,o1=some v:=by
        cases o1 with
        |none=>cases ho
        |some v=>exact⟨v,rfl⟩
       rw[hv]at ho;injection ho with ho;subst ho;obtain⟨_,tl,R4⟩:=j4.resolve_right (λh=>by rw[hv]at h;cases h.1);simp only at R4;have hrow:=R4.row;refine oN ?_;have hp:=p254 v tl F4 H4 hv R4 f4 R4.b6 hrow (by have:=lG hrow;simp;omega) (hvl v hv);exact hp.weak (cO (by
        try simp only[aMl,aN7]
        repeat (first|exact trivial|refine⟨rfl, ?_⟩)))
      ·rintro H4 ⟨ho,F4,j4,f4⟩;have hv:o1=none:=by
        cases o1 with
        |none=>rfl
        |some v=>cases ho
       show R' (.panic zT) _ H4;rw[hR];exact Or.inr ⟨rfl,F4,hv,j4,f4⟩
    have g63:kN Tryz.prog 93 H.length opr R' 6 #[true,true,true,true,true,true,false,false,false,false,false,false] (gM [(2, .optr H.length 0),(3, .optr (H.length+1) 0),(6, .optr (H1.length+1) 0),(31, .optr H1.length 0),(32, .optr cx.ix.d 0),(33, .optr cx.ix.d 0),(34, .optr cx.ix.d 0),(35, .fn (.func fc) [] cc),(36, .agg [aE k1,aE k2,aE k3])]) H2:=by
     subst hops;refine OO 6 rfl (aY (fI (aG aA aD aB aC s2 s6 (bD skey srow hdb2 hcf))) g127)
    have g62:kN Tryz.prog 93 H.length opr R' 7 #[false,true,true,true,true,true,false,false,false,false,false,false] (gM [(2, .optr H.length 0),(3, .optr (H.length+1) 0),(6, .optr (H1.length+1) 0),(32, .optr cx.ix.d 0),(33, .optr cx.ix.d 0),(34, .optr cx.ix.d 0),(35, .fn (.func fc) [] cc),(36, .agg [aE k1,aE k2,aE k3])]) H2:=by
     subst hops;refine FL 0 6 rfl rfl (aY (fI (aG fM aA aD aB aC s2 (bL s6 skey srow hdb2 hcf))) g63) (aY (fI (aG aA aD aB aC s2 s6 (bD skey srow hdb2 hcf))) g126)
    have g95:kN Tryz.prog 93 H.length opr R' 6 #[true,true,true,true,true,false,true,false,false,false,false,false] (gM [(2, .optr H.length 0),(3, .optr (H.length+1) 0),(6, .optr (H1.length+1) 0),(31, .optr H1.length 0),(32, .optr cx.ix.d 0),(33, .optr cx.ix.d 0),(34, .optr cx.ix.d 0),(35, .fn (.func fc) [] cc),(37, .fn (.func 134) [] [.optr H.length 0, .optr (H1.length+1) 0])]) H2:=by
     subst hops;refine OO 5 rfl (aY (fI (aG iB aA aD aB aC s2 (bL s6 skey srow hdb2 hcf))) g127)
    have g94:kN Tryz.prog 93 H.length opr R' 7 #[false,true,true,true,true,false,true,false,false,false,false,false] (gM [(2, .optr H.length 0),(3, .optr (H.length+1) 0),(6, .optr (H1.length+1) 0),(32, .optr cx.ix.d 0),(33, .optr cx.ix.d 0),(34, .optr cx.ix.d 0),(35, .fn (.func fc) [] cc),(37, .fn (.func 134) [] [.optr H.length 0, .optr (H1.length+1) 0])]) H2:=by
     subst hops;refine FL 0 5 rfl rfl (aY (fI (aG fM aA aD aB aC s2 (bL s6 skey srow hdb2 hcf))) g95) (aY (fI (aG iB aA aD aB aC s2 (bL s6 skey srow hdb2 hcf))) g126)
    have g31:kN Tryz.prog 93 H.length opr R' 7 #[true,true,true,true,true,false,false,false,false,false,false,false] (gM [(2, .optr H.length 0),(3, .optr (H.length+1) 0),(6, .optr (H1.length+1) 0),(31, .optr H1.length 0),(32, .optr cx.ix.d 0),(33, .optr cx.ix.d 0),(34, .optr cx.ix.d 0),(35, .fn (.func fc) [] cc)]) H2:=by
     subst hops;refine FL 5 6 rfl rfl (aY (fI (aG iB aA aD aB aC s2 (bL s6 skey srow hdb2 hcf))) g63) (aY (fI (aG aA aD aB aC s2 s6 (bD skey srow hdb2 hcf))) g95)
    have g30:kN Tryz.prog 93 H.length opr R' 8 #[false,true,true,true,true,false,false,false,false,false,false,false] (gM [(2, .optr H.length 0),(3, .optr (H.length+1) 0),(6, .optr (H1.length+1) 0),(32, .optr cx.ix.d 0),(33, .optr cx.ix.d 0),(34, .optr cx.ix.d 0),(35, .fn (.func fc) [] cc)]) H2:=by
     subst hops;refine QM 0 5 6 rfl rfl rfl (aY (fI (aG fM aA aD aB aC s2 (bL s6 skey srow hdb2 hcf))) g31) (aY (fI (aG iB aA aD aB aC s2 (bL s6 skey srow hdb2 hcf))) g62) (aY (fI (aG aA aD aB aC s2 s6 (bD skey srow hdb2 hcf))) g94)
    have g111:kN Tryz.prog 93 H.length opr R' 6 #[true,true,true,true,false,true,true,false,false,false,false,false] (gM [(2, .optr H.length 0),(3, .optr (H.length+1) 0),(6, .optr (H1.length+1) 0),(31, .optr H1.length 0),(32, .optr cx.ix.d 0),(33, .optr cx.ix.d 0),(34, .optr cx.ix.d 0),(36, .agg [aE k1,aE k2,aE k3]),(37, .fn (.func 134) [] [.optr H.length 0, .optr (H1.length+1) 0])]) H2:=by
     subst hops;refine OO 4 rfl (aY (fI (aG y69 aA aD aB aC s2 (bL s6 skey srow hdb2 hcf))) g127)
    have g110:kN Tryz.prog 93 H.length opr R' 7 #[false,true,true,true,false,true,true,false,false,false,false,false] (gM [(2, .optr H.length 0),(3, .optr (H.length+1) 0),(6, .optr (H1.length+1) 0),(32, .optr cx.ix.d 0),(33, .optr cx.ix.d 0),(34, .optr cx.ix.d 0),(36, .agg [aE k1,aE k2,aE k3]),(37, .fn (.func 134) [] [.optr H.length 0, .optr (H1.length+1) 0])]) H2:=by
     subst hops;refine FL 0 4 rfl rfl (aY (fI (aG fM aA aD aB aC s2 (bL s6 skey srow hdb2 hcf))) g111) (aY (fI (aG y69 aA aD aB aC s2 (bL s6 skey srow hdb2 hcf))) g126)
    have g47:kN Tryz.prog 93 H.length opr R' 7 #[true,true,true,true,false,true,false,false,false,false,false,false] (gM [(2, .optr H.length 0),(3, .optr (H.length+1) 0),(6, .optr (H1.length+1) 0),(31, .optr H1.length 0),(32, .optr cx.ix.d 0),(33, .optr cx.ix.d 0),(34, .optr cx.ix.d 0),(36, .agg [aE k1,aE k2,aE k3])]) H2:=by
     subst hops;refine FL 4 6 rfl rfl (aY (fI (aG y69 aA aD aB aC s2 (bL s6 skey srow hdb2 hcf))) g63) (aY (fI (aG aA aD aB aC s2 s6 (bD skey srow hdb2 hcf))) g111)
    have g46:kN Tryz.prog 93 H.length opr R' 8 #[false,true,true,true,false,true,false,false,false,false,false,false] (gM [(2, .optr H.length 0),(3, .optr (H.length+1) 0),(6, .optr (H1.length+1) 0),(32, .optr cx.ix.d 0),(33, .optr cx.ix.d 0),(34, .optr cx.ix.d 0),(36, .agg [aE k1,aE k2,aE k3])]) H2:=by
     subst hops;refine QM 0 4 6 rfl rfl rfl (aY (fI (aG fM aA aD aB aC s2 (bL s6 skey srow hdb2 hcf))) g47) (aY (fI (aG y69 aA aD aB aC s2 (bL s6 skey srow hdb2 hcf))) g62) (aY (fI (aG aA aD aB aC s2 s6 (bD skey srow hdb2 hcf))) g110)
    have g79:kN Tryz.prog 93 H.length opr R' 7 #[true,true,true,true,false,false,true,false,false,false,false,false] (gM [(2, .optr H.length 0),(3, .optr (H.length+1) 0),(6, .optr (H1.length+1) 0),(31, .optr H1.length 0),(32, .optr cx.ix.d 0),(33, .optr cx.ix.d 0),(34, .optr cx.ix.d 0),(37, .fn (.func 134) [] [.optr H.length 0, .optr (H1.length+1) 0])]) H2:=by
     subst hops;refine FL 4 5 rfl rfl (aY (fI (aG y69 aA aD aB aC s2 (bL s6 skey srow hdb2 hcf))) g95) (aY (fI (aG iB aA aD aB aC s2 (bL s6 skey srow hdb2 hcf))) g111)
    have g78:kN Tryz.prog 93 H.length opr R' 8 #[false,true,true,true,false,false,true,false,false,false,false,false] (gM [(2, .optr H.length 0),(3, .optr (H.length+1) 0),(6, .optr (H1.length+1) 0),(32, .optr cx.ix.d 0),(33, .optr cx.ix.d 0),(34, .optr cx.ix.d 0),(37, .fn (.func 134) [] [.optr H.length 0, .optr (H1.length+1) 0])]) H2:=by
     subst hops;refine QM 0 4 5 rfl rfl rfl (aY (fI (aG fM aA aD aB aC s2 (bL s6 skey srow hdb2 hcf))) g79) (aY (fI (aG y69 aA aD aB aC s2 (bL s6 skey srow hdb2 hcf))) g94) (aY (fI (aG iB aA aD aB aC s2 (bL s6 skey srow hdb2 hcf))) g110)
    have g15:kN Tryz.prog 93 H.length opr R' 8 #[true,true,true,true,false,false,false,false,false,false,false,false] (gM [(2, .optr H.length 0),(3, .optr (H.length+1) 0),(6, .optr (H1.length+1) 0),(31, .optr H1.length 0),(32, .optr cx.ix.d 0),(33, .optr cx.ix.d 0),(34, .optr cx.ix.d 0)]) H2:=by
     subst hops;refine QM 4 5 6 rfl rfl rfl (aY (fI (aG y69 aA aD aB aC s2 (bL s6 skey srow hdb2 hcf))) g31) (aY (fI (aG iB aA aD aB aC s2 (bL s6 skey srow hdb2 hcf))) g47) (aY (fI (aG aA aD aB aC s2 s6 (bD skey srow hdb2 hcf))) g79)
    have g14:kN Tryz.prog 93 H.length opr R' 9 #[false,true,true,true,false,false,false,false,false,false,false,false] (gM [(2, .optr H.length 0),(3, .optr (H.length+1) 0),(6, .optr (H1.length+1) 0),(32, .optr cx.ix.d 0),(33, .optr cx.ix.d 0),(34, .optr cx.ix.d 0)]) H2:=by
     subst hops;refine zs4 0 4 5 6 rfl rfl rfl rfl (aY (fI (aG fM aA aD aB aC s2 (bL s6 skey srow hdb2 hcf))) g15) (aY (fI (aG y69 aA aD aB aC s2 (bL s6 skey srow hdb2 hcf))) g30) (aY (fI (aG iB aA aD aB aC s2 (bL s6 skey srow hdb2 hcf))) g46) (aY (fI (aG aA aD aB aC s2 s6 (bD skey srow hdb2 hcf))) g78)
    have g103:kN Tryz.prog 93 H.length opr R' 7 #[true,true,true,false,false,true,true,false,false,false,false,false] (gM [(2, .optr H.length 0),(3, .optr (H.length+1) 0),(6, .optr (H1.length+1) 0),(31, .optr H1.length 0),(32, .optr cx.ix.d 0),(33, .optr cx.ix.d 0),(36, .agg [aE k1,aE k2,aE k3]),(37, .fn (.func 134) [] [.optr H.length 0, .optr (H1.length+1) 0])]) H2:=by
     subst hops;refine OO 3 rfl (aY (fI (aG rK aA aD aB aC s2 (bL s6 skey srow hdb2 hcf))) g111)
    have g102:kN Tryz.prog 93 H.length opr R' 8 #[false,true,true,false,false,true,true,false,false,false,false,false] (gM [(2, .optr H.length 0),(3, .optr (H.length+1) 0),(6, .optr (H1.length+1) 0),(32, .optr cx.ix.d 0),(33, .optr cx.ix.d 0),(36, .agg [aE k1,aE k2,aE k3]),(37, .fn (.func 134) [] [.optr H.length 0, .optr (H1.length+1) 0])]) H2:=by
     subst hops;refine FL 0 3 rfl rfl (aY (fI (aG fM aA aD aB aC s2 (bL s6 skey srow hdb2 hcf))) g103) (aY (fI (aG rK aA aD aB aC s2 (bL s6 skey srow hdb2 hcf))) g110)
    have g39:kN Tryz.prog 93 H.length opr R' 8 #[true,true,true,false,false,true,false,false,false,false,false,false] (gM [(2, .optr H.length 0),(3, .optr (H.length+1) 0),(6, .optr (H1.length+1) 0),(31, .optr H1.length 0),(32, .optr cx.ix.d 0),(33, .optr cx.ix.d 0),(36, .agg [aE k1,aE k2,aE k3])]) H2:=by
     subst hops;refine FL 3 6 rfl rfl (aY (fI (aG rK aA aD aB aC s2 (bL s6 skey srow hdb2 hcf))) g47) (aY (fI (aG aA aD aB aC s2 s6 (bD skey srow hdb2 hcf))) g103)
    have g38:kN Tryz.prog 93 H.length opr R' 9 #[false,true,true,false,false,true,false,false,false,false,false,false] (gM [(2, .optr H.length 0),(3, .optr (H.length+1) 0),(6, .optr (H1.length+1) 0),(32, .optr cx.ix.d 0),(33, .optr cx.ix.d 0),(36, .agg [aE k1,aE k2,aE k3])]) H2:=by
     subst hops;refine QM 0 3 6 rfl rfl rfl (aY (fI (aG fM aA aD aB aC s2 (bL s6 skey srow hdb2 hcf))) g39) (aY (fI (aG rK aA aD aB aC s2 (bL s6 skey srow hdb2 hcf))) g46) (aY (fI (aG aA aD aB aC s2 s6 (bD skey srow hdb2 hcf))) g102)
    have g71:kN Tryz.prog 93 H.length opr R' 8 #[true,true,true,false,false,false,true,false,false,false,false,false] (gM [(2, .optr H.length 0),(3, .optr (H.length+1) 0),(6, .optr (H1.length+1) 0),(31, .optr H1.length 0),(32, .optr cx.ix.d 0),(33, .optr cx.ix.d 0),(37, .fn (.func 134) [] [.optr H.length 0, .optr (H1.length+1) 0])]) H2:=by
     subst hops;refine FL 3 5 rfl rfl (aY (fI (aG rK aA aD aB aC s2 (bL s6 skey srow hdb2 hcf))) g79) (aY (fI (aG iB aA aD aB aC s2 (bL s6 skey srow hdb2 hcf))) g103)
    have g70:kN Tryz.prog 93 H.length opr R' 9 #[false,true,true,false,false,false,true,false,false,false,false,false] (gM [(2, .optr H.length 0),(3, .optr (H.length+1) 0),(6, .optr (H1.length+1) 0),(32, .optr cx.ix.d 0),(33, .optr cx.ix.d 0),(37, .fn (.func 134) [] [.optr H.length 0, .optr (H1.length+1) 0])]) H2:=by
     subst hops;refine QM 0 3 5 rfl rfl rfl (aY (fI (aG fM aA aD aB aC s2 (bL s6 skey srow hdb2 hcf))) g71) (aY (fI (aG rK aA aD aB aC s2 (bL s6 skey srow hdb2 hcf))) g78) (aY (fI (aG iB aA aD aB aC s2 (bL s6 skey srow hdb2 hcf))) g102)
    have g7:kN Tryz.prog 93 H.length opr R' 9 #[true,true,true,false,false,false,false,false,false,false,false,false] (gM [(2, .optr H.length 0),(3, .optr (H.length+1) 0),(6, .optr (H1.length+1) 0),(31, .optr H1.length 0),(32, .optr cx.ix.d 0),(33, .optr cx.ix.d 0)]) H2:=by
     subst hops;refine QM 3 5 6 rfl rfl rfl (aY (fI (aG rK aA aD aB aC s2 (bL s6 skey srow hdb2 hcf))) g15) (aY (fI (aG iB aA aD aB aC s2 (bL s6 skey srow hdb2 hcf))) g39) (aY (fI (aG aA aD aB aC s2 s6 (bD skey srow hdb2 hcf))) g71)
    have g6:kN Tryz.prog 93 H.length opr R' 10 #[false,true,true,false,false,false,false,false,false,false,false,false] (gM [(2, .optr H.length 0),(3, .optr (H.length+1) 0),(6, .optr (H1.length+1) 0),(32, .optr cx.ix.d 0),(33, .optr cx.ix.d 0)]) H2:=by
     subst hops;refine zs4 0 3 5 6 rfl rfl rfl rfl (aY (fI (aG fM aA aD aB aC s2 (bL s6 skey srow hdb2 hcf))) g7) (aY (fI (aG rK aA aD aB aC s2 (bL s6 skey srow hdb2 hcf))) g14) (aY (fI (aG iB aA aD aB aC s2 (bL s6 skey srow hdb2 hcf))) g38) (aY (fI (aG aA aD aB aC s2 s6 (bD skey srow hdb2 hcf))) g70)
    have g99:kN Tryz.prog 93 H.length opr R' 8 #[true,true,false,false,false,true,true,false,false,false,false,false] (gM [(2, .optr H.length 0),(3, .optr (H.length+1) 0),(6, .optr (H1.length+1) 0),(31, .optr H1.length 0),(32, .optr cx.ix.d 0),(36, .agg [aE k1,aE k2,aE k3]),(37, .fn (.func 134) [] [.optr H.length 0, .optr (H1.length+1) 0])]) H2:=by
     subst hops;refine OO 2 rfl (aY (fI (aG aA aD aB aC s2 s6 (bD skey srow hdb2 hcf))) g103)
    have g98:kN Tryz.prog 93 H.length opr R' 9 #[false,true,false,false,false,true,true,false,false,false,false,false] (gM [(2, .optr H.length 0),(3, .optr (H.length+1) 0),(6, .optr (H1.length+1) 0),(32, .optr cx.ix.d 0),(36, .agg [aE k1,aE k2,aE k3]),(37, .fn (.func 134) [] [.optr H.length 0, .optr (H1.length+1) 0])]) H2:=by
     subst hops;refine FL 0 2 rfl rfl (aY (fI (aG fM aA aD aB aC s2 (bL s6 skey srow hdb2 hcf))) g99) (aY (fI (aG aA aD aB aC s2 s6 (bD skey srow hdb2 hcf))) g102)
    have g35:kN Tryz.prog 93 H.length opr R' 9 #[true,true,false,false,false,true,false,false,false,false,false,false] (gM [(2, .optr H.length 0),(3, .optr (H.length+1) 0),(6, .optr (H1.length+1) 0),(31, .optr H1.length 0),(32, .optr cx.ix.d 0),(36, .agg [aE k1,aE k2,aE k3])]) H2:=by
     subst hops;refine FL 2 6 rfl rfl (aY (fI (aG aA aD aB aC s2 s6 (bD skey srow hdb2 hcf))) g39) (aY (fI (aG aA aD aB aC s2 s6 (bD skey srow hdb2 hcf))) g99)
    have g34:kN Tryz.prog 93 H.length opr R' 10 #[false,true,false,false,false,true,false,false,false,false,false,false] (gM [(2, .optr H.length 0),(3, .optr (H.length+1) 0),(6, .optr (H1.length+1) 0),(32, .optr cx.ix.d 0),(36, .agg [aE k1,aE k2,aE k3])]) H2:=by
     subst hops;refine QM 0 2 6 rfl rfl rfl (aY (fI (aG fM aA aD aB aC s2 (bL s6 skey srow hdb2 hcf))) g35) (aY (fI (aG aA aD aB aC s2 s6 (bD skey srow hdb2 hcf))) g38) (aY (fI (aG aA aD aB aC s2 s6 (bD skey srow hdb2 hcf))) g98)
    have g67:kN Tryz.prog 93 H.length opr R' 9 #[true,true,false,false,false,false,true,false,false,false,false,false] (gM [(2, .optr H.length 0),(3, .optr (H.length+1) 0),(6, .optr (H1.length+1) 0),(31, .optr H1.length 0),(32, .optr cx.ix.d 0),(37, .fn (.func 134) [] [.optr H.length 0, .optr (H1.length+1) 0])]) H2:=by
     subst hops;refine FL 2 5 rfl rfl (aY (fI (aG aA aD aB aC s2 s6 (bD skey srow hdb2 hcf))) g71) (aY (fI (aG iB aA aD aB aC s2 (bL s6 skey srow hdb2 hcf))) g99)
    have g66:kN Tryz.prog 93 H.length opr R' 10 #[false,true,false,false,false,false,true,false,false,false,false,false] (gM [(2, .optr H.length 0),(3, .optr (H.length+1) 0),(6, .optr (H1.length+1) 0),(32, .optr cx.ix.d 0),(37, .fn (.func 134) [] [.optr H.length 0, .optr (H1.length+1) 0])]) H2:=by
     subst hops;refine QM 0 2 5 rfl rfl rfl (aY (fI (aG fM aA aD aB aC s2 (bL s6 skey srow hdb2 hcf))) g67) (aY (fI (aG aA aD aB aC s2 s6 (bD skey srow hdb2 hcf))) g70) (aY (fI (aG iB aA aD aB aC s2 (bL s6 skey srow hdb2 hcf))) g98)
    have g3:kN Tryz.prog 93 H.length opr R' 10 #[true,true,false,false,false,false,false,false,false,false,false,false] (gM [(2, .optr H.length 0),(3, .optr (H.length+1) 0),(6, .optr (H1.length+1) 0),(31, .optr H1.length 0),(32, .optr cx.ix.d 0)]) H2:=by
     subst hops;refine QM 2 5 6 rfl rfl rfl (aY (fI (aG aA aD aB aC s2 s6 (bD skey srow hdb2 hcf))) g7) (aY (fI (aG iB aA aD aB aC s2 (bL s6 skey srow hdb2 hcf))) g35) (aY (fI (aG aA aD aB aC s2 s6 (bD skey srow hdb2 hcf))) g67)
    have g2:kN Tryz.prog 93 H.length opr R' 11 #[false,true,false,false,false,false,false,false,false,false,false,false] (gM [(2, .optr H.length 0),(3, .optr (H.length+1) 0),(6, .optr (H1.length+1) 0),(32, .optr cx.ix.d 0)]) H2:=by
     subst hops;refine zs4 0 2 5 6 rfl rfl rfl rfl (aY (fI (aG fM aA aD aB aC s2 (bL s6 skey srow hdb2 hcf))) g3) (aY (fI (aG aA aD aB aC s2 s6 (bD skey srow hdb2 hcf))) g6) (aY (fI (aG iB aA aD aB aC s2 (bL s6 skey srow hdb2 hcf))) g34) (aY (fI (aG aA aD aB aC s2 s6 (bD skey srow hdb2 hcf))) g66)
    have g97:kN Tryz.prog 93 H.length opr R' 9 #[true,false,false,false,false,true,true,false,false,false,false,false] (gM [(2, .optr H.length 0),(3, .optr (H.length+1) 0),(6, .optr (H1.length+1) 0),(31, .optr H1.length 0),(36, .agg [aE k1,aE k2,aE k3]),(37, .fn (.func 134) [] [.optr H.length 0, .optr (H1.length+1) 0])]) H2:=by
     subst hops;refine OO 1 rfl (aY (fI (aG qV aA aD aB aC s2 (bL s6 skey srow hdb2 hcf))) g99)
    have g96:kN Tryz.prog 93 H.length opr R' 10 #[false,false,false,false,false,true,true,false,false,false,false,false] (gM [(2, .optr H.length 0),(3, .optr (H.length+1) 0),(6, .optr (H1.length+1) 0),(36, .agg [aE k1,aE k2,aE k3]),(37, .fn (.func 134) [] [.optr H.length 0, .optr (H1.length+1) 0])]) H2:=by
     subst hops;refine FL 0 1 rfl rfl (aY (fI (aG fM aA aD aB aC s2 (bL s6 skey srow hdb2 hcf))) g97) (aY (fI (aG qV aA aD aB aC s2 (bL s6 skey srow hdb2 hcf))) g98)
    have g33:kN Tryz.prog 93 H.length opr R' 10 #[true,false,false,false,false,true,false,false,false,false,false,false] (gM [(2, .optr H.length 0),(3, .optr (H.length+1) 0),(6, .optr (H1.length+1) 0),(31, .optr H1.length 0),(36, .agg [aE k1,aE k2,aE k3])]) H2:=by
     subst hops;refine FL 1 6 rfl rfl (aY (fI (aG qV aA aD aB aC s2 (bL s6 skey srow hdb2 hcf))) g35) (aY (fI (aG aA aD aB aC s2 s6 (bD skey srow hdb2 hcf))) g97)
    have g32:kN Tryz.prog 93 H.length opr R' 11 #[false,false,false,false,false,true,false,false,false,false,false,false] (gM [(2, .optr H.length 0),(3, .optr (H.length+1) 0),(6, .optr (H1.length+1) 0),(36, .agg [aE k1,aE k2,aE k3])]) H2:=by
     subst hops;refine QM 0 1 6 rfl rfl rfl (aY (fI (aG fM aA aD aB aC s2 (bL s6 skey srow hdb2 hcf))) g33) (aY (fI (aG qV aA aD aB aC s2 (bL s6 skey srow hdb2 hcf))) g34) (aY (fI (aG aA aD aB aC s2 s6 (bD skey srow hdb2 hcf))) g96)
    have g65:kN Tryz.prog 93 H.length opr R' 10 #[true,false,false,false,false,false,true,false,false,false,false,false] (gM [(2, .optr H.length 0),(3, .optr (H.length+1) 0),(6, .optr (H1.length+1) 0),(31, .optr H1.length 0),(37, .fn (.func 134) [] [.optr H.length 0, .optr (H1.length+1) 0])]) H2:=by
     subst hops;refine FL 1 5 rfl rfl (aY (fI (aG qV aA aD aB aC s2 (bL s6 skey srow hdb2 hcf))) g67) (aY (fI (aG iB aA aD aB aC s2 (bL s6 skey srow hdb2 hcf))) g97)
    have g64:kN Tryz.prog 93 H.length opr R' 11 #[false,false,false,false,false,false,true,false,false,false,false,false] (gM [(2, .optr H.length 0),(3, .optr (H.length+1) 0),(6, .optr (H1.length+1) 0),(37, .fn (.func 134) [] [.optr H.length 0, .optr (H1.length+1) 0])]) H2:=by
     subst hops;refine QM 0 1 5 rfl rfl rfl (aY (fI (aG fM aA aD aB aC s2 (bL s6 skey srow hdb2 hcf))) g65) (aY (fI (aG qV aA aD aB aC s2 (bL s6 skey srow hdb2 hcf))) g66) (aY (fI (aG iB aA aD aB aC s2 (bL s6 skey srow hdb2 hcf))) g96)
    have g1:kN Tryz.prog 93 H.length opr R' 11 #[true,false,false,false,false,false,false,false,false,false,false,false] (gM [(2, .optr H.length 0),(3, .optr (H.length+1) 0),(6, .optr (H1.length+1) 0),(31, .optr H1.length 0)]) H2:=by
     subst hops;refine QM 1 5 6 rfl rfl rfl (aY (fI (aG qV aA aD aB aC s2 (bL s6 skey srow hdb2 hcf))) g3) (aY (fI (aG iB aA aD aB aC s2 (bL s6 skey srow hdb2 hcf))) g33) (aY (fI (aG aA aD aB aC s2 s6 (bD skey srow hdb2 hcf))) g65)
    have g0:kN Tryz.prog 93 H.length opr R' 12 #[false,false,false,false,false,false,false,false,false,false,false,false] (gM [(2, .optr H.length 0),(3, .optr (H.length+1) 0),(6, .optr (H1.length+1) 0)]) H2:=by
     subst hops;refine zs4 0 1 5 6 rfl rfl rfl rfl (aY (fI (aG fM aA aD aB aC s2 (bL s6 skey srow hdb2 hcf))) g1) (aY (fI (aG qV aA aD aB aC s2 (bL s6 skey srow hdb2 hcf))) g2) (aY (fI (aG iB aA aD aB aC s2 (bL s6 skey srow hdb2 hcf))) g32) (aY (fI (aG aA aD aB aC s2 s6 (bD skey srow hdb2 hcf))) g64)
    subst hops;exact kN.weak (T2:=(gM [(2, .optr H.length 0),(3, .optr (H.length+1) 0),(6, .optr (H1.length+1) 0)])) g0 (cO (by repeat (first|exact trivial|refine⟨rfl, ?_⟩)))
   rcases hr with hr| ⟨rfl,F4,hv,j4,f4⟩
   rotate_left
   ·rcases hcs with⟨_,rfl,rfl⟩| ⟨v,hv2,_⟩
    ·obtain⟨_,loc',act',w'⟩:=j4.resolve_left (λh=>by rw[hv]at h;cases h.1);exact Or.inr ⟨rfl,rfl,loc',act',F4,w',f02.trans f4⟩
    ·rw[hv]at hv2;cases hv2
   obtain⟨rfl,v,tl,F4,H4,hv,hfit,R4,f4,rfl⟩:=hr;obtain⟨hov,rfl,rfl⟩:FI v=true/\o=some ⟨v,st.now,tP (st1.res (k1,k2,k3)) st.now a1.D v,a1.D,a1.deps⟩/\st'= {st1 with res:=eQ st1.res (k1,k2,k3) (some ⟨v,st.now,tP (st1.res (k1,k2,k3)) st.now a1.D v,a1.D,a1.deps⟩),comps:=wrap64 (st1.comps+1)}:=by
    rcases hcs with⟨hv2,_⟩| ⟨v2,hv2,h1,h2,h3⟩
    ·rw[hv]at hv2;cases hv2
    ·rw[hv]at hv2;injection hv2 with hv2;subst hv2;exact⟨h1,h2,h3⟩
   refine eG (cO hfit) ?_;refine gQ [2,3,6] (aG aA aD aB aC hdL hdb (cF bG b2 b3 b2L hdb1 hd1L)) ?_;obtain⟨loc1,G1,W4,hL4,nr4,n24,n64,nt4,hF4⟩:=R4.w;obtain⟨FD,D4,hI4,hdis4,hG4,henv4⟩:=id W4;obtain⟨es,clk,hm4,hgn,hgg⟩:=D4.res;obtain⟨clock4,hdb4⟩:=D4.db;obtain⟨o1',o2',o3,o4',o5'⟩:=D4.own;have nrF:∀ {id},FD id->id≠H1.length:=λhf e=>nr4 (by rw[hG4];exact .inl (e▸hf));have hk1:=lG b3;have nk2:¬F2 (H.length+1):=λh=>by
    rw[hF2]at h;rcases h with h|h|h|h|h
    ·exact nG1 h
    ·omega
    ·omega
    ·omega
    ·cases h
   have skey4:=(f4.get skey nk2).1;obtain⟨ne2',ne6',_⟩:=R4.ne;have ne2:=Ne.symm ne2';have ne6:=Ne.symm ne6';have nek:H.length+1≠H1.length:=z8
   have ned:=nrF o1';have nem:=nrF o3;refine dI (λH5=>(∀id,id≠H1.length->H5[id]? =H4[id]?)/\H5.length=H4.length/\H5[H1.length]? =some (.row [.slice (v.nums.map aE) .none, .str v.text,aE (st.now:Int),aE (st.now:Int),aE (a1.D:Int), .slice (a1.deps.map dQ) tl,aE 0])) ⟨λid h=>aM5 (Ne.symm h),zz,aM4 (lG R4.row)⟩ ?_;rintro H5 ⟨h5s,h5l,h5r⟩;have t2:=(h5s _ ne2).trans R4.b2;have t6:=(h5s _ ne6).trans R4.b6;have tk:=(h5s _ nek).trans skey4;have td:=(h5s _ ned).trans hdb4;have tm:=(h5s _ nem).trans hm4;rcases hold:st1.res (k1,k2,k3)with _|old
   ·
    have gE:oD false .nilp (gP es (k1,k2,k3))= .nilp:=by rw[hgg,hold];rfl
    have hnc:tP (st1.res (k1,k2,k3)) st.now a1.D v=st.now:=by rw[hold];rfl
    repeat refine wS ?_
    refine eJ (by kernel_rfl) ?_;refine iI (aG qV iB VU rK fM aA (aG aD aB aC hdL hdb bG (aG b2 b3 b2L hdb1 hd1L t2 (aG t6 tk td tm h5r gE fJ)))) ?_
    repeat refine wS ?_
    refine eJ (by kernel_rfl) ?_;refine lY 3 (aG fM aA aD aB aC hdL (aG hdb bG b2 b3 b2L hdb1 (aG hd1L t2 t6 tk td tm (bR h5r gE fJ)))) ?_;refine pP (aG aA aD aB aC hdL hdb (aG bG b2 b3 b2L hdb1 hd1L (aG t2 t6 tk td tm h5r (aS gE fJ)))) ?_;refine pP (aG aA aD aB aC hdL hdb (aG bG b2 b3 b2L hdb1 hd1L (aG t2 t6 tk td tm h5r (aS gE fJ)))) ?_;refine pP (aG aA aD aB aC hdL hdb (aG bG b2 b3 b2L hdb1 hd1L (aG t2 t6 tk td tm h5r (aS gE fJ)))) ?_;refine pP (aG aA aD aB aC hdL hdb (aG bG b2 b3 b2L hdb1 hd1L (aG t2 t6 tk td tm h5r (aS gE fJ)))) ?_;refine pP (aG aA aD aB aC hdL hdb (aG bG b2 b3 b2L hdb1 hd1L (aG t2 t6 tk td tm h5r (aS gE fJ)))) ?_;refine pP (aG aA aD aB aC hdL hdb (aG bG b2 b3 b2L hdb1 hd1L (aG t2 t6 tk td tm h5r (aS gE fJ)))) ?_;refine pP (aG aA aD aB aC hdL hdb (aG bG b2 b3 b2L hdb1 hd1L (aG t2 t6 tk td tm h5r (aS gE fJ)))) ?_;refine pP (aG aA aD aB aC hdL hdb (aG bG b2 b3 b2L hdb1 hd1L (aG t2 t6 tk td tm h5r (aS gE fJ)))) ?_;refine pP (aG aA aD aB aC hdL hdb (aG bG b2 b3 b2L hdb1 hd1L (aG t2 t6 tk td tm h5r (aS gE fJ)))) ?_;refine lY 2 (aG aA aD aB aC hdL hdb (aG bG b2 b3 b2L hdb1 hd1L (aG t2 t6 tk td tm h5r (aS gE fJ)))) ?_;refine pP (aG aA aD aB aC hdL hdb (aG bG b2 b3 b2L hdb1 hd1L (aG t2 t6 tk td tm h5r (aS gE fJ)))) ?_;refine pP (aG aA aD aB aC hdL hdb (aG bG b2 b3 b2L hdb1 hd1L (aG t2 t6 tk td tm h5r (aS gE fJ)))) ?_;refine pP (aG aA aD aB aC hdL hdb (aG bG b2 b3 b2L hdb1 hd1L (aG t2 t6 tk td tm h5r (aS gE fJ)))) ?_;refine pP (aG aA aD aB aC hdL hdb (aG bG b2 b3 b2L hdb1 hd1L (aG t2 t6 tk td tm h5r (aS gE fJ)))) ?_;refine pP (aG aA aD aB aC hdL hdb (aG bG b2 b3 b2L hdb1 hd1L (aG t2 t6 tk td tm h5r (aS gE fJ)))) ?_;refine pP (aG aA aD aB aC hdL hdb (aG bG b2 b3 b2L hdb1 hd1L (aG t2 t6 tk td tm h5r (aS gE fJ)))) ?_;refine pP (aG aA aD aB aC hdL hdb (aG bG b2 b3 b2L hdb1 hd1L (aG t2 t6 tk td tm h5r (aS gE fJ)))) ?_;refine pP (aG aA aD aB aC hdL hdb (aG bG b2 b3 b2L hdb1 hd1L (aG t2 t6 tk td tm h5r (aS gE fJ)))) ?_;refine pP (aG aA aD aB aC hdL hdb (aG bG b2 b3 b2L hdb1 hd1L (aG t2 t6 tk td tm h5r (aS gE fJ)))) ?_;refine iI (aG aA aD aB aC hdL hdb (aG bG b2 b3 b2L hdb1 hd1L (aG t2 t6 tk td tm h5r (aS gE fJ)))) ?_;refine pJ (aG aA aD aB aC hdL hdb (aG bG b2 b3 b2L hdb1 hd1L (aG t2 t6 tk td tm h5r (aS gE fJ)))) ?_
    repeat refine wS ?_
    refine wK ?_;refine gQ [2,3,6] (aG aA aD aB aC hdL hdb (aG bG b2 b3 b2L hdb1 hd1L (aG t2 t6 tk td tm h5r (aS gE fJ)))) ?_;refine dI (λH6=>(∀id,id≠H1.length->H6[id]? =H4[id]?)/\H6.length=H4.length/\H6[H1.length]? =some (.row (oR ⟨v,st.now,tP (st1.res (k1,k2,k3)) st.now a1.D v,a1.D,a1.deps⟩ tl 0))) (by rw[hnc];exact⟨h5s,h5l,h5r⟩) ?_;rintro H6 ⟨h6s,h6l,h6r⟩;have u2:=(h6s _ ne2).trans R4.b2;have u6:=(h6s _ ne6).trans R4.b6;have uk:=(h6s _ nek).trans skey4;have ud:=(h6s _ ned).trans hdb4;have um:=(h6s _ nem).trans hm4;have vm:(cx.ix.m=H6.length)=False:=by have:=lG um;simp;omega
    have vd:(cx.ix.d=H6.length)=False:=by have:=lG ud;simp;omega
    have w2:∀o,(H6.set cx.ix.m o)[H.length]? =_:=λo=>bN u2 (λe=>n24 (by rw[hG4];exact .inl (e▸o3)));have w6:∀o,(H6.set cx.ix.m o)[H1.length+1]? =_:=λo=>bN u6 (λe=>n64 (by rw[hG4];exact .inl (e▸o3)));have wd:∀o,(H6.set cx.ix.m o)[cx.ix.d]? =_:=λo=>bN ud D4.ne.2.1;have w6d:∀o o2,((H6.set cx.ix.m o).set cx.ix.d o2)[H1.length+1]? =_:=λo o2=>bN (w6 o) (λe=>n64 (by rw[hG4];exact .inl (e▸o1')));have wl:∀o,(H6.set cx.ix.m o).length=H6.length:=λo=>zz
    ·
     repeat refine wS ?_
     refine iU 0 (n0:=H6.length) (by first|rfl| (simp only[aNo,aM7,aOa,Nat.reduceAdd,aNn,hdL,hdb,dQ,b2,b3,b2L,hdb1,hd1L,t2,t6,tk,td,tm,h5r,gE,cD,dQ,dG,aNv,u2,u6,uk,ud,um,vm,vd,w2,w6,wd,w6d,wl,dD];done)) (by kernel_rfl) ?_;refine eP 6 (by first|rfl| (simp only[aNo,aM7,aOa,Nat.reduceAdd,aNn,hdL,hdb,dQ,b2,b3,b2L,hdb1,hd1L,t2,t6,tk,td,tm,h5r,gE,cD,dQ,dG,aNv,u2,u6,uk,ud,um,vm,vd,w2,w6,wd,w6d,wl,dD];done)) (DQ (aG qV iB VU rK fM aA (aG aD aB aC hdL hdb bG (aG b2 b3 b2L hdb1 hd1L t2 (aG t6 tk td tm h5r gE (aG fJ oF @nD u2 u6 uk (aG ud um vm vd w2 w6 (bD wd w6d wl dD)))))))) z7 z7 z7 ?_;refine mR (by first| (simp only[LS,HS,aOe,aMl,aN7,hdL,hdb,dQ,b2,b3,b2L,hdb1,hd1L,t2,t6,tk,td,tm,h5r,gE,cD,dQ,dG,aNv,u2,u6,uk,ud,um,vm,vd,w2,w6,wd,w6d,wl,dD]<;>with_reducible rfl)|rfl) ?_;refine iO (bm:= [0,1,3,7,0,0,63]) (fresh:=(H6.length)) (by kernel_rfl) (JW (aG VU fM aA aD aB aC (aG hdL hdb bG b2 b3 b2L (aG hdb1 hd1L t2 t6 tk td (aG tm h5r gE fJ oF @nD (aG u2 u6 uk ud um vm (aG vd w2 w6 wd w6d wl dD))))))) z7 (by repeat (first|exact fT.base _|with_reducible apply fT.keep|apply fT.drop)) ?_;refine aV (aG y3 qV rK aA aD aB (aG aC hdL hdb bG b2 b3 (aG b2L hdb1 hd1L t2 t6 tk (aG td tm h5r gE fJ oF (aG @nD u2 u6 uk ud um (aG vm vd w2 w6 wd w6d (aS wl dD))))))) ?_;refine aV (aG fM aA aD aB aC hdL (aG hdb bG b2 b3 b2L hdb1 (aG hd1L t2 t6 tk td tm (aG h5r gE fJ oF @nD u2 (aG u6 uk ud um vm vd (cF w2 w6 wd w6d wl dD)))))) ?_
     repeat refine wS ?_
     refine wT (Or.inl ⟨.inr rfl,_,rfl, ?_⟩);obtain⟨loc',G',w',e1,e2,e3⟩:=R4.finish hx (k:=(k1,k2,k3)) hov h6s h6l h6r um (wrap64 (st1.comps+1)) clock4 (D4.clk _ hdb4);rw[hold]at w';exact⟨_,loc',G',rfl,by rw[e1];rfl,w',((((f02.trans f4).set' R4.mem.1 h6s h6l).set (by rw[hF4,hG4];exact .inl (.inl o3)) _).set (by rw[hF4,hG4];exact .inl (.inl o1')) _).more λid hi=>.inl (e3 id hi),λq hq=>e2 q (aOg _ hq) (λe=>hka (e▸hq))⟩
   ·
    have gE:oD false .nilp (gP es (k1,k2,k3))= .optr (loc1 (k1,k2,k3)) 0:=by rw[hgg,hold];rfl
    obtain⟨⟨tlo,luo,ho4⟩,hFo,_,_,_,_,_,hol,_⟩:=D4.recs _ old hold;have to:=(h5s _ (nrF hFo)).trans ho4;simp only[oR]at to;have hD:decide ((old.D:Int)<=(a1.D:Int))=decide (old.D<=a1.D):=by rw[decide_eq_decide];omega
    have hml:old.val.nums.length<=maxLen:=by
     have em:maxLen=9223372036854775807:=z7
     unfold rD at hol;omega
    have nr5:(H1.length=H5.length)=False:=by have:=lG h5r;simp;omega
    repeat refine wS ?_
    refine eJ (by kernel_rfl) ?_;refine iI (aG qV iB VU rK fM aA (aG aD aB aC hdL hdb bG (aG b2 b3 b2L hdb1 hd1L t2 (aG t6 tk td tm h5r gE (bD to hD nr5 fJ))))) ?_
    repeat refine wS ?_
    refine eJ (by kernel_rfl) ?_;refine lY 22 (aG y3 nU pO fM aA aD (aG aB aC hdL hdb bG b2 (aG b3 b2L hdb1 hd1L t2 t6 (aG tk td tm h5r gE to (bR hD nr5 fJ))))) ?_;refine CE (aG aA aD aB aC hdL hdb (aG bG b2 b3 b2L hdb1 hd1L (aG t2 t6 tk td tm h5r (bL gE to hD nr5 fJ)))) ZT (λhc=>SC old.val.nums v.nums old.val.text v.text hml _) ?_;refine iI (aG aA aD aB aC hdL hdb (aG bG b2 b3 b2L hdb1 hd1L (aG t2 t6 tk td tm h5r (bL gE to hD nr5 fJ)))) ?_;refine gG (aG aA aD aB aC hdL hdb (aG bG b2 b3 b2L hdb1 hd1L (aG t2 t6 tk td tm h5r (bL gE to hD nr5 fJ)))) (λbt71=> ?_) (λbt71=> ?_)
    ·
     have hc:old.D<=a1.D/\old.val=v:=by
      simp only[aMj,decide_eq_true_eq]at bt71;obtain⟨h1,h2,h3⟩:=bt71;refine⟨h1, ?_⟩;exact aAn _ _ (by simpa using h3) (by simpa using h2)
     have hnc:tP (st1.res (k1,k2,k3)) st.now a1.D v=old.c:=by rw[hold,tP,if_pos hc]
     refine gQ [2,3,6,7] (aG aA aD aB aC hdL hdb (aG bG b2 b3 b2L hdb1 hd1L (aG t2 t6 tk td tm h5r (bL gE to hD nr5 fJ)))) ?_
     repeat refine wS ?_
     refine iU 0 (n0:=H5.length) (by first|rfl| (simp only[aNo,aM7,aOa,Nat.reduceAdd,aNn,hdL,hdb,dQ,b2,b3,b2L,hdb1,hd1L,t2,t6,tk,td,tm,h5r,gE,to,hD,nr5,cD,dQ];done)) (by kernel_rfl) ?_;refine eP 7 (by first|rfl| (simp only[aNo,aM7,aOa,Nat.reduceAdd,aNn,hdL,hdb,dQ,b2,b3,b2L,hdb1,hd1L,t2,t6,tk,td,tm,h5r,gE,to,hD,nr5,cD,dQ];done)) (DQ (aG y3 pO fM aA aD aB (aG aC hdL hdb bG b2 b3 (aG b2L hdb1 hd1L t2 t6 tk (aG td tm h5r gE to hD (aS nr5 fJ)))))) z7 z7 z7 ?_;refine mR (by first| (simp only[LS,HS,aOe,aMl,aN7,hdL,hdb,dQ,b2,b3,b2L,hdb1,hd1L,t2,t6,tk,td,tm,h5r,gE,to,hD,nr5,cD,dQ]<;>with_reducible rfl)|rfl) ?_;refine iO (bm:= [0,0,2,6,14,31,63,127]) (fresh:=(H5.length)) (by kernel_rfl) (JW (aG y3 aA aD aB aC hdL (aG hdb bG b2 b3 b2L hdb1 (aG hd1L t2 t6 tk td tm (cF h5r gE to hD nr5 fJ))))) z7 (by repeat (first|exact fT.base _|with_reducible apply fT.keep|apply fT.drop)) ?_;refine dI (λH6=>(∀id,id≠H1.length->H6[id]? =H4[id]?)/\H6.length=H4.length/\H6[H1.length]? =some (.row (oR ⟨v,st.now,tP (st1.res (k1,k2,k3)) st.now a1.D v,a1.D,a1.deps⟩ tl 0))) (by rw[hnc];exact⟨λid h=>(aM5 (Ne.symm h)).trans (h5s id h),by simp[h5l],aM4 (lG h5r)⟩) ?_;rintro H6 ⟨h6s,h6l,h6r⟩;have u2:=(h6s _ ne2).trans R4.b2;have u6:=(h6s _ ne6).trans R4.b6;have uk:=(h6s _ nek).trans skey4;have ud:=(h6s _ ned).trans hdb4;have um:=(h6s _ nem).trans hm4;have vm:(cx.ix.m=H6.length)=False:=by have:=lG um;simp;omega
     have vd:(cx.ix.d=H6.length)=False:=by have:=lG ud;simp;omega
     have w2:∀o,(H6.set cx.ix.m o)[H.length]? =_:=λo=>bN u2 (λe=>n24 (by rw[hG4];exact .inl (e▸o3)));have w6:∀o,(H6.set cx.ix.m o)[H1.length+1]? =_:=λo=>bN u6 (λe=>n64 (by rw[hG4];exact .inl (e▸o3)));have wd:∀o,(H6.set cx.ix.m o)[cx.ix.d]? =_:=λo=>bN ud D4.ne.2.1;have w6d:∀o o2,((H6.set cx.ix.m o).set cx.ix.d o2)[H1.length+1]? =_:=λo o2=>bN (w6 o) (λe=>n64 (by rw[hG4];exact .inl (e▸o1')));have wl:∀o,(H6.set cx.ix.m o).length=H6.length:=λo=>zz
     ·
      repeat refine wS ?_
      refine iU 0 (n0:=H6.length) (by first|rfl| (simp only[aNo,aM7,aOa,Nat.reduceAdd,aNn,hdL,hdb,dQ,b2,b3,b2L,hdb1,hd1L,t2,t6,tk,td,tm,h5r,gE,to,hD,nr5,cD,dQ,dG,aNv,u2,u6,uk,ud,um,vm,vd,w2,w6,wd,w6d,wl,dD];done)) (by kernel_rfl) ?_;refine eP 6 (by first|rfl| (simp only[aNo,aM7,aOa,Nat.reduceAdd,aNn,hdL,hdb,dQ,b2,b3,b2L,hdb1,hd1L,t2,t6,tk,td,tm,h5r,gE,to,hD,nr5,cD,dQ,dG,aNv,u2,u6,uk,ud,um,vm,vd,w2,w6,wd,w6d,wl,dD];done)) (DQ (aG qV iB VU rK fM aA (aG aD aB aC hdL hdb bG (aG b2 b3 b2L hdb1 hd1L t2 (aG t6 tk td tm h5r gE (aG to hD nr5 fJ oF @nD (aG u2 u6 uk ud um vm (aG vd w2 w6 wd w6d wl dD)))))))) z7 z7 z7 ?_;refine mR (by first| (simp only[LS,HS,aOe,aMl,aN7,hdL,hdb,dQ,b2,b3,b2L,hdb1,hd1L,t2,t6,tk,td,tm,h5r,gE,to,hD,nr5,cD,dQ,dG,aNv,u2,u6,uk,ud,um,vm,vd,w2,w6,wd,w6d,wl,dD]<;>with_reducible rfl)|rfl) ?_;refine iO (bm:= [0,1,3,7,0,0,63]) (fresh:=(H6.length)) (by kernel_rfl) (JW (aG VU fM aA aD aB aC (aG hdL hdb bG b2 b3 b2L (aG hdb1 hd1L t2 t6 tk td (aG tm h5r gE to hD nr5 (aG fJ oF @nD u2 u6 uk (aG ud um vm vd w2 w6 (bD wd w6d wl dD)))))))) z7 (by repeat (first|exact fT.base _|with_reducible apply fT.keep|apply fT.drop)) ?_;refine aV (aG y3 qV rK aA aD aB (aG aC hdL hdb bG b2 b3 (aG b2L hdb1 hd1L t2 t6 tk (aG td tm h5r gE to hD (aG nr5 fJ oF @nD u2 u6 (aG uk ud um vm vd w2 (bL w6 wd w6d wl dD))))))) ?_;refine gQ [6] (aG aA aD aB aC hdL hdb (aG bG b2 b3 b2L hdb1 hd1L (aG t2 t6 tk td tm h5r (aG gE to hD nr5 fJ oF (aG @nD u2 u6 uk ud um (aG vm vd w2 w6 wd w6d (aS wl dD))))))) ?_;refine aV (aG fM aA aD aB aC hdL (aG hdb bG b2 b3 b2L hdb1 (aG hd1L t2 t6 tk td tm (aG h5r gE to hD nr5 fJ (aG oF @nD u2 u6 uk ud (aG um vm vd w2 w6 wd (bR w6d wl dD))))))) ?_
      repeat refine wS ?_
      refine wT (Or.inl ⟨.inr rfl,_,rfl, ?_⟩);obtain⟨loc',G',w',e1,e2,e3⟩:=R4.finish hx (k:=(k1,k2,k3)) hov h6s h6l h6r um (wrap64 (st1.comps+1)) clock4 (D4.clk _ hdb4);rw[hold]at w';exact⟨_,loc',G',rfl,by rw[e1];rfl,w',((((f02.trans f4).set' R4.mem.1 h6s h6l).set (by rw[hF4,hG4];exact .inl (.inl o3)) _).set (by rw[hF4,hG4];exact .inl (.inl o1')) _).more λid hi=>.inl (e3 id hi),λq hq=>e2 q (aOg _ hq) (λe=>hka (e▸hq))⟩
    ·
     have hc:¬(old.D<=a1.D/\old.val=v):=by
      rintro⟨h1,h2⟩;rw[<-h2]at bt71;simp[h1]at bt71
     have hnc:tP (st1.res (k1,k2,k3)) st.now a1.D v=st.now:=by rw[hold,tP,if_neg hc]
     repeat refine wS ?_
     refine wK ?_;refine gQ [2,3,6] (aG aA aD aB aC hdL hdb (aG bG b2 b3 b2L hdb1 hd1L (aG t2 t6 tk td tm h5r (bL gE to hD nr5 fJ)))) ?_;refine dI (λH6=>(∀id,id≠H1.length->H6[id]? =H4[id]?)/\H6.length=H4.length/\H6[H1.length]? =some (.row (oR ⟨v,st.now,tP (st1.res (k1,k2,k3)) st.now a1.D v,a1.D,a1.deps⟩ tl 0))) (by rw[hnc];exact⟨h5s,h5l,h5r⟩) ?_;rintro H6 ⟨h6s,h6l,h6r⟩;have u2:=(h6s _ ne2).trans R4.b2;have u6:=(h6s _ ne6).trans R4.b6;have uk:=(h6s _ nek).trans skey4;have ud:=(h6s _ ned).trans hdb4;have um:=(h6s _ nem).trans hm4;have vm:(cx.ix.m=H6.length)=False:=by have:=lG um;simp;omega
     have vd:(cx.ix.d=H6.length)=False:=by have:=lG ud;simp;omega
     have w2:∀o,(H6.set cx.ix.m o)[H.length]? =_:=λo=>bN u2 (λe=>n24 (by rw[hG4];exact .inl (e▸o3)));have w6:∀o,(H6.set cx.ix.m o)[H1.length+1]? =_:=λo=>bN u6 (λe=>n64 (by rw[hG4];exact .inl (e▸o3)));have wd:∀o,(H6.set cx.ix.m o)[cx.ix.d]? =_:=λo=>bN ud D4.ne.2.1;have w6d:∀o o2,((H6.set cx.ix.m o).set cx.ix.d o2)[H1.length+1]? =_:=λo o2=>bN (w6 o) (λe=>n64 (by rw[hG4];exact .inl (e▸o1')));have wl:∀o,(H6.set cx.ix.m o).length=H6.length:=λo=>zz
     ·
      repeat refine wS ?_
      refine iU 0 (n0:=H6.length) (by first|rfl| (simp only[aNo,aM7,aOa,Nat.reduceAdd,aNn,hdL,hdb,dQ,b2,b3,b2L,hdb1,hd1L,t2,t6,tk,td,tm,h5r,gE,to,hD,nr5,cD,dQ,dG,aNv,u2,u6,uk,ud,um,vm,vd,w2,w6,wd,w6d,wl,dD];done)) (by kernel_rfl) ?_;refine eP 6 (by first|rfl| (simp only[aNo,aM7,aOa,Nat.reduceAdd,aNn,hdL,hdb,dQ,b2,b3,b2L,hdb1,hd1L,t2,t6,tk,td,tm,h5r,gE,to,hD,nr5,cD,dQ,dG,aNv,u2,u6,uk,ud,um,vm,vd,w2,w6,wd,w6d,wl,dD];done)) (DQ (aG qV iB VU rK fM aA (aG aD aB aC hdL hdb bG (aG b2 b3 b2L hdb1 hd1L t2 (aG t6 tk td tm h5r gE (aG to hD nr5 fJ oF @nD (aG u2 u6 uk ud um vm (aG vd w2 w6 wd w6d wl dD)))))))) z7 z7 z7 ?_;refine mR (by first| (simp only[LS,HS,aOe,aMl,aN7,hdL,hdb,dQ,b2,b3,b2L,hdb1,hd1L,t2,t6,tk,td,tm,h5r,gE,to,hD,nr5,cD,dQ,dG,aNv,u2,u6,uk,ud,um,vm,vd,w2,w6,wd,w6d,wl,dD]<;>with_reducible rfl)|rfl) ?_;refine iO (bm:= [0,1,3,7,0,0,63]) (fresh:=(H6.length)) (by kernel_rfl) (JW (aG VU fM aA aD aB aC (aG hdL hdb bG b2 b3 b2L (aG hdb1 hd1L t2 t6 tk td (aG tm h5r gE to hD nr5 (aG fJ oF @nD u2 u6 uk (aG ud um vm vd w2 w6 (bD wd w6d wl dD)))))))) z7 (by repeat (first|exact fT.base _|with_reducible apply fT.keep|apply fT.drop)) ?_;refine aV (aG y3 qV rK aA aD aB (aG aC hdL hdb bG b2 b3 (aG b2L hdb1 hd1L t2 t6 tk (aG td tm h5r gE to hD (aG nr5 fJ oF @nD u2 u6 (aG uk ud um vm vd w2 (bL w6 wd w6d wl dD))))))) ?_;refine aV (aG fM aA aD aB aC hdL (aG hdb bG b2 b3 b2L hdb1 (aG hd1L t2 t6 tk td tm (aG h5r gE to hD nr5 fJ (aG oF @nD u2 u6 uk ud (aG um vm vd w2 w6 wd (bR w6d wl dD))))))) ?_
      repeat refine wS ?_
      refine wT (Or.inl ⟨.inr rfl,_,rfl, ?_⟩);obtain⟨loc',G',w',e1,e2,e3⟩:=R4.finish hx (k:=(k1,k2,k3)) hov h6s h6l h6r um (wrap64 (st1.comps+1)) clock4 (D4.clk _ hdb4);rw[hold]at w';exact⟨_,loc',G',rfl,by rw[e1];rfl,w',((((f02.trans f4).set' R4.mem.1 h6s h6l).set (by rw[hF4,hG4];exact .inl (.inl o3)) _).set (by rw[hF4,hG4];exact .inl (.inl o1')) _).more λid hi=>.inl (e3 id hi),λq hq=>e2 q (aOg _ hq) (λe=>hka (e▸hq))⟩
end Go.Abs
