/- Part 8 of a proof of the law AstReference: Go data as trees, the walks of the functions that the law reaches, the plain laws. -/
import Derived.Test.YtfphoklhgapnpaaGreatDoorGBAstReference
import Derived.Test.YtfphoklhgapnpaaGreatDoorProg
import Derived.KernelRfl
import Derived.Shelf.Small.Strs
import Derived.Shelf.Strings.Prefix
import Derived.Shelf.Strings.Fields
import Derived.Lib.Strings
open Option renaming getD_some->aSu,isSome_none->aTm,map_none->aTl,map_some->aS1
open List renaming all_cons->aSd,all_eq_true->aTr,append_assoc->aUa,append_nil->aT4,getD_eq_getElem?_getD->aTe,getElem?_append_left->aSv,getElem?_append_right->aSw,getElem?_cons_zero->aTo,getElem?_eq_getElem->aTd,getElem?_set_ne->aS0,getElem?_set_self->aSz,getElem_cons_zero->aSj,getElem_map->aSh,getElem_mem->aTk,length_append->aTi,length_cons->aS2,length_eq_zero_iff->aTx,length_map->aSr,length_singleton->aSi,map_cons->aTg,mem_append->aTs,mem_append_left->aUg,mem_cons->aTv,mem_map->aTq,mem_range->aT0,mem_singleton->aT2,nil_append->aT1,replicate->aS6,set_append_right->aTw,set_set->aUe,take_length->aUd,take_of_length_le->aUf
open Nat renaming le_refl->aSl,le_trans->aSm,lt_of_lt_of_le->aSn,lt_or_ge->aSk,lt_succ_self->aT9,mul_le_mul_right->aTj,succ_ne_self->aUb,zero_le->aTn
open Go.Sem renaming run_bind->aS4,run_pure->aS7
open Array renaming getD_eq_getD_getElem?->aSo,getElem?_eq_getElem->aSt,getElem?_setIfInBounds_ne->aSq,getElem?_setIfInBounds_self_of_lt->aSp,getElem?_toList->aTf
open Bool renaming and_eq_true->aSe,false_eq_true->aTc,not_eq_true'->aSf,not_false->aTp,not_true->aTt,or_eq_true->aTy
open Go.Result renaming andThen_ok->aS5
set_option linter.unusedVariables false
set_option linter.unusedSimpArgs false
namespace Go.Abs
open Go.Proofs
theorem kR{p:Prop}(h:p:=by kernel_rfl):p:=h
theorem aQ1:dC Tryz.prog 3=some (.int .i64 0):=kR
theorem aPk:cV Tryz.prog 29=some ⟨false,1,24⟩:=kR
theorem DZ:dH Tryz.prog 29=some (31,⟨true,7,80⟩):=kR
theorem nQ:cV Tryz.prog 31=some ⟨true,7,80⟩:=kR
theorem SI:dC Tryz.prog 31=some (.agg [.int .i64 0, .int .i64 0, .str [], .int .i64 0, .int .i64 0, .int .i64 0, .slice [] .full]):=kR
theorem aGg:cV Tryz.prog 38=some ⟨false,1,24⟩:=kR
theorem BF:dH Tryz.prog 38=some (84,⟨true,5,48⟩):=kR
theorem aO6:cV Tryz.prog 48=some ⟨false,1,24⟩:=kR
theorem aPb:dH Tryz.prog 48=some (3,⟨false,1,8⟩):=kR
theorem eB:dH Tryz.prog 65=some (67,⟨true,3,48⟩):=kR
theorem MM:cV Tryz.prog 67=some ⟨true,3,48⟩:=kR
theorem tY:dC Tryz.prog 67=some (.agg [.int .i64 0, .str [], .slice [] .full]):=kR
theorem lI:cV Tryz.prog 77=some ⟨true,2,24⟩:=kR
theorem SA:dC Tryz.prog 84=some (.agg [.int .i64 0, .int .i64 0, .int .i64 0, .int .i64 0, .str []]):=kR
theorem XX:aP Tryz.prog 12=true:=kR
theorem aQa:aP Tryz.prog 25=true:=kR
theorem RU:aP Tryz.prog 26=true:=kR
theorem SB:aP Tryz.prog 27=true:=kR
theorem aGp:aP Tryz.prog 28=true:=kR
theorem aO3:aP Tryz.prog 29=true:=kR
theorem aOm:aP Tryz.prog 30=true:=kR
theorem aAz:aP Tryz.prog 31=true:=kR
theorem aPz:aP Tryz.prog 32=true:=kR
theorem aPj:aP Tryz.prog 33=true:=kR
theorem aPt:aP Tryz.prog 34=true:=kR
theorem aQc:aP Tryz.prog 35=true:=kR
theorem aPr:aP Tryz.prog 51=true:=kR
theorem aG7:aP Tryz.prog 52=true:=kR
theorem TC:aP Tryz.prog 53=true:=kR
theorem aG4:aP Tryz.prog 56=true:=kR
theorem aG9:aP Tryz.prog 57=true:=kR
theorem aGd:aP Tryz.prog 59=true:=kR
theorem aHb:aP Tryz.prog 60=true:=kR
theorem aQj:aP Tryz.prog 61=true:=kR
theorem aP4:aP Tryz.prog 63=true:=kR
theorem aQb:aP Tryz.prog 64=true:=kR
theorem aGm:aP Tryz.prog 65=true:=kR
theorem aPl:aP Tryz.prog 70=true:=kR
theorem aP7:aP Tryz.prog 81=true:=kR
theorem aHa:aP Tryz.prog 88=true:=kR
theorem LO:aP Tryz.prog 89=true:=kR
theorem aOw:aP Tryz.prog 90=true:=kR
theorem aGj:aP Tryz.prog 91=true:=kR
theorem AU:aP Tryz.prog 92=true:=kR
theorem dJ:aP Tryz.prog 93=true:=kR
theorem IN:aP Tryz.prog 94=true:=kR
theorem aGn:aP Tryz.prog 95=true:=kR
theorem aG2:aP Tryz.prog 96=true:=kR
theorem TD:aP Tryz.prog 97=true:=kR
theorem aG0:aP Tryz.prog 98=true:=kR
theorem wV:aP Tryz.prog 99=true:=kR
theorem nC:aP Tryz.prog 100=true:=kR
theorem aAv:aP Tryz.prog 102=true:=kR
theorem aK3:aP Tryz.prog 104=true:=kR
theorem AC:aP Tryz.prog 105=true:=kR
theorem XK:aP Tryz.prog 106=true:=kR
theorem aH7:aP Tryz.prog 109=true:=kR
theorem aKr:aP Tryz.prog 110=true:=kR
theorem aIy:aP Tryz.prog 111=true:=kR
theorem JB:aP Tryz.prog 112=true:=kR
theorem kL:aP Tryz.prog 113=true:=kR
theorem vK:aP Tryz.prog 114=true:=kR
theorem XW:aP Tryz.prog 115=true:=kR
theorem aCi:aP Tryz.prog 116=true:=kR
theorem XG:aP Tryz.prog 117=true:=kR
theorem YI:aP Tryz.prog 118=true:=kR
theorem YS:aP Tryz.prog 125=true:=kR
theorem AN:aP Tryz.prog 126=true:=kR
theorem aMa:aP Tryz.prog 127=true:=kR
theorem aHf:aP Tryz.prog 128=true:=kR
theorem aBk:aP Tryz.prog 129=true:=kR
theorem aH8:aP Tryz.prog 130=true:=kR
theorem QZ:aP Tryz.prog 131=true:=kR
theorem PJ:aP Tryz.prog 132=true:=kR
theorem aLo:aP Tryz.prog 133=true:=kR
theorem aL7:aP Tryz.prog 134=true:=kR
theorem aIk:aP Tryz.prog 135=true:=kR
theorem QJ:aP Tryz.prog 136=true:=kR
theorem aA1:aP Tryz.prog 143=true:=kR
theorem aHz:aP Tryz.prog 144=true:=kR
theorem aI9:aP Tryz.prog 145=true:=kR
theorem ZD:aP Tryz.prog 147=true:=kR
theorem aMe:aP Tryz.prog 148=true:=kR
theorem aLi:aP Tryz.prog 150=true:=kR
theorem RH:aP Tryz.prog 151=true:=kR
theorem EG:aP Tryz.prog 152=true:=kR
theorem aLa:aP Tryz.prog 153=true:=kR
theorem PR:aP Tryz.prog 154=true:=kR
theorem AS:aP Tryz.prog 155=true:=kR
theorem OU:aP Tryz.prog 159=true:=kR
theorem DW:aP Tryz.prog 162=true:=kR
theorem uO:aP Tryz.prog 163=true:=kR
theorem XV:aP Tryz.prog 164=true:=kR
theorem vE:aP Tryz.prog 167=true:=kR
theorem aKp:aP Tryz.prog 168=true:=kR
theorem aNz:aP Tryz.prog 169=true:=kR
theorem aLs:aP Tryz.prog 170=true:=kR
theorem aNm:aP Tryz.prog 171=true:=kR
theorem aBg:aP Tryz.prog 182=true:=kR
theorem aBu:aP Tryz.prog 183=true:=kR
theorem aMb:aP Tryz.prog 184=true:=kR
theorem aHy:aP Tryz.prog 185=true:=kR
theorem aJ1:aP Tryz.prog 190=true:=kR
theorem AT:aP Tryz.prog 205=true:=kR
theorem aKw:aP Tryz.prog 206=true:=kR
theorem aIm:aP Tryz.prog 207=true:=kR
theorem xI:aP Tryz.prog 208=true:=kR
theorem OS:aP Tryz.prog 209=true:=kR
theorem aMq:aP Tryz.prog 210=true:=kR
theorem aLe:aP Tryz.prog 212=true:=kR
theorem aMr:aP Tryz.prog 213=true:=kR
theorem aCz:aP Tryz.prog 216=true:=kR
theorem aM0:aP Tryz.prog 219=true:=kR
theorem aJa:aP Tryz.prog 222=true:=kR
theorem aJ8:aP Tryz.prog 223=true:=kR
theorem aLv:aP Tryz.prog 225=true:=kR
theorem mK:aP Tryz.prog 226=true:=kR
theorem aHo:aP Tryz.prog 227=true:=kR
theorem aM3:aP Tryz.prog 228=true:=kR
theorem aIu:aP Tryz.prog 230=true:=kR
theorem aIr:aP Tryz.prog 231=true:=kR
theorem aNx:aP Tryz.prog 232=true:=kR
theorem aJc:aP Tryz.prog 233=true:=kR
theorem aLy:aP Tryz.prog 234=true:=kR
theorem XB:aP Tryz.prog 235=true:=kR
theorem aKe:aP Tryz.prog 237=true:=kR
theorem aNd:aP Tryz.prog 238=true:=kR
theorem aIx:aP Tryz.prog 239=true:=kR
theorem aKj:aP Tryz.prog 240=true:=kR
theorem aCu:aP Tryz.prog 241=true:=kR
theorem aNf:aP Tryz.prog 242=true:=kR
theorem aK1:aP Tryz.prog 259=true:=kR
theorem aLq:aP Tryz.prog 264=true:=kR
theorem aMh:aP Tryz.prog 265=true:=kR
theorem aMl:aP Tryz.prog 266=true:=kR
theorem aH1:aP Tryz.prog 267=true:=kR
theorem aKn:aP Tryz.prog 268=true:=kR
theorem aNu:aP Tryz.prog 269=true:=kR
theorem aIj:aP Tryz.prog 272=true:=kR
theorem XS:aP Tryz.prog 273=true:=kR
theorem aKy:aP Tryz.prog 274=true:=kR
theorem YH:aP Tryz.prog 275=true:=kR
theorem aAh:aP Tryz.prog 277=true:=kR
theorem aL9:aP Tryz.prog 278=true:=kR
theorem aL6:aP Tryz.prog 286=true:=kR
theorem aJz:aP Tryz.prog 291=true:=kR
theorem aHk:aP Tryz.prog 292=true:=kR
theorem aKa:aP Tryz.prog 293=true:=kR
theorem aK5:aP Tryz.prog 294=true:=kR
theorem XN:aP Tryz.prog 295=true:=kR
theorem aBh:aP Tryz.prog 296=true:=kR
theorem aCp:aP Tryz.prog 297=true:=kR
theorem aK4:aP Tryz.prog 299=true:=kR
theorem aMz:aP Tryz.prog 300=true:=kR
theorem aL0:aP Tryz.prog 302=true:=kR
theorem aKg:aP Tryz.prog 309=true:=kR
theorem aIs:aP Tryz.prog 316=true:=kR
theorem aLc:aP Tryz.prog 317=true:=kR
theorem aLn:aP Tryz.prog 318=true:=kR
theorem aJf:aP Tryz.prog 319=true:=kR
theorem aHt:aP Tryz.prog 320=true:=kR
theorem aJi:aP Tryz.prog 321=true:=kR
theorem aNa:aP Tryz.prog 322=true:=kR
theorem aNc:aP Tryz.prog 323=true:=kR
theorem aIh:aP Tryz.prog 325=true:=kR
theorem aBe:aP Tryz.prog 326=true:=kR
theorem aHs:aP Tryz.prog 340=true:=kR
theorem aHr:aP Tryz.prog 341=true:=kR
theorem aJr:aP Tryz.prog 342=true:=kR
theorem aM4:aP Tryz.prog 343=true:=kR
theorem aM5:aP Tryz.prog 344=true:=kR
theorem aKq:aP Tryz.prog 345=true:=kR
theorem aLb:aP Tryz.prog 346=true:=kR
theorem aH6:aP Tryz.prog 347=true:=kR
theorem aJ0:aP Tryz.prog 348=true:=kR
theorem aHc:aP Tryz.prog 349=true:=kR
theorem y2:cV Tryz.prog 2=some ⟨false,1,8⟩/\dC Tryz.prog 2=some (.int .i64 0)/\mM Tryz.prog 2=false/\GN Tryz.prog 2=some .i64:=⟨kR,kR,kR,kR⟩
theorem y3:cV Tryz.prog 3=some ⟨false,1,8⟩/\dC Tryz.prog 3=some (.int .i64 0)/\mM Tryz.prog 3=false/\GN Tryz.prog 3=some .i64:=⟨kR,aQ1,kR,kR⟩
theorem y4:cV Tryz.prog 4=some ⟨false,1,1⟩/\dC Tryz.prog 4=some (.bool false)/\mM Tryz.prog 4=false/\aBt Tryz.prog 4=true:=⟨kR,kR,kR,kR⟩
theorem y5:cV Tryz.prog 5=some ⟨false,1,1⟩/\dC Tryz.prog 5=some (.int .u8 0)/\mM Tryz.prog 5=false/\GN Tryz.prog 5=some .u8:=⟨kR,kR,kR,kR⟩
theorem y6:cV Tryz.prog 6=some ⟨false,1,1⟩/\dC Tryz.prog 6=some (.int .u8 0)/\mM Tryz.prog 6=false/\GN Tryz.prog 6=some .u8:=⟨kR,kR,kR,kR⟩
theorem y9:cV Tryz.prog 9=some ⟨false,1,16⟩/\dC Tryz.prog 9=some (.str [])/\mM Tryz.prog 9=false/\MX Tryz.prog 9=true:=⟨kR,kR,kR,kR⟩
theorem y26:cV Tryz.prog 26=some ⟨false,1,8⟩/\dC Tryz.prog 26=some (.int .i64 0)/\mM Tryz.prog 26=false/\GN Tryz.prog 26=some .i64:=⟨kR,kR,kR,kR⟩
theorem zY:cV Tryz.prog 29=some ⟨false,1,24⟩/\dH Tryz.prog 29=some (31,⟨true,7,80⟩)/\dC Tryz.prog 29=some (.slice [] .full)/\mM Tryz.prog 29=false:=⟨aPk,DZ,kR,kR⟩
theorem bY:cV Tryz.prog 31=some ⟨true,7,80⟩/\oG Tryz.prog 31=some [(0,⟨false,1,8⟩),(1,⟨false,1,8⟩),(2,⟨false,1,16⟩),(3,⟨false,1,8⟩),(4,⟨false,1,8⟩),(5,⟨false,1,8⟩),(6,⟨false,1,24⟩)]/\dC Tryz.prog 31=some (.agg [.int .i64 0, .int .i64 0, .str [], .int .i64 0, .int .i64 0, .int .i64 0, .slice [] .full])/\mM Tryz.prog 31=false:=⟨nQ,kR,SI,kR⟩
theorem rS:cV Tryz.prog 38=some ⟨false,1,24⟩/\dH Tryz.prog 38=some (84,⟨true,5,48⟩)/\dC Tryz.prog 38=some (.slice [] .full)/\mM Tryz.prog 38=false:=⟨aGg,BF,kR,kR⟩
theorem y48:cV Tryz.prog 48=some ⟨false,1,24⟩/\dH Tryz.prog 48=some (3,⟨false,1,8⟩)/\dC Tryz.prog 48=some (.slice [] .full)/\mM Tryz.prog 48=false:=⟨aO6,aPb,kR,kR⟩
theorem nG:cV Tryz.prog 65=some ⟨false,1,24⟩/\dH Tryz.prog 65=some (67,⟨true,3,48⟩)/\dC Tryz.prog 65=some (.slice [] .full)/\mM Tryz.prog 65=false:=⟨kR,eB,kR,kR⟩
theorem dM:cV Tryz.prog 67=some ⟨true,3,48⟩/\oG Tryz.prog 67=some [(0,⟨false,1,8⟩),(1,⟨false,1,16⟩),(2,⟨false,1,24⟩)]/\dC Tryz.prog 67=some (.agg [.int .i64 0, .str [], .slice [] .full])/\mM Tryz.prog 67=false:=⟨MM,kR,tY,kR⟩
theorem lT:cV Tryz.prog 77=some ⟨true,2,24⟩/\oG Tryz.prog 77=some [(0,⟨false,1,8⟩),(1,⟨false,1,16⟩)]/\dC Tryz.prog 77=some (.agg [.int .i64 0, .str []])/\mM Tryz.prog 77=false:=⟨lI,kR,kR,kR⟩
theorem JZ:cV Tryz.prog 78=some ⟨false,1,24⟩/\dH Tryz.prog 78=some (77,⟨true,2,24⟩)/\dC Tryz.prog 78=some (.slice [] .full)/\mM Tryz.prog 78=false:=⟨kR,kR,kR,kR⟩
theorem nT:cV Tryz.prog 84=some ⟨true,5,48⟩/\oG Tryz.prog 84=some [(0,⟨false,1,8⟩),(1,⟨false,1,8⟩),(2,⟨false,1,8⟩),(3,⟨false,1,8⟩),(4,⟨false,1,16⟩)]/\dC Tryz.prog 84=some (.agg [.int .i64 0, .int .i64 0, .int .i64 0, .int .i64 0, .str []])/\mM Tryz.prog 84=false:=⟨kR,kR,SA,kR⟩
theorem fQ:cV Tryz.prog 96=some ⟨false,1,24⟩/\dH Tryz.prog 96=some (9,⟨false,1,16⟩)/\dC Tryz.prog 96=some (.slice [] .full)/\mM Tryz.prog 96=false:=⟨kR,kR,kR,kR⟩
theorem aJ:cV Tryz.prog 112=some ⟨false,1,8⟩/\dC Tryz.prog 112=some (.nilp)/\mM Tryz.prog 112=true:=⟨kR,kR,kR⟩
theorem gF:cV Tryz.prog 114=some ⟨true,3,56⟩/\oG Tryz.prog 114=some [(0,⟨false,1,24⟩),(1,⟨false,1,8⟩),(2,⟨false,1,24⟩)]/\dC Tryz.prog 114=some (.agg [.slice [] .full, .int .i64 0, .slice [] .full])/\mM Tryz.prog 114=false:=⟨kR,kR,kR,kR⟩
theorem rI:cV Tryz.prog 117=some ⟨true,3,48⟩/\oG Tryz.prog 117=some [(0,⟨false,1,16⟩),(1,⟨false,1,8⟩),(2,⟨false,1,24⟩)]/\dC Tryz.prog 117=some (.agg [.str [], .int .i64 0, .slice [] .full])/\mM Tryz.prog 117=false:=⟨kR,kR,kR,kR⟩
theorem aPq:cV Tryz.prog 124=some ⟨false,1,24⟩/\dH Tryz.prog 124=some (5,⟨false,1,1⟩)/\dC Tryz.prog 124=some (.slice [] .full)/\mM Tryz.prog 124=false:=⟨kR,kR,kR,kR⟩
theorem aI7:cV Tryz.prog 159=some ⟨true,1,24⟩/\oG Tryz.prog 159=some [(0,⟨false,1,24⟩)]/\dC Tryz.prog 159=some (.agg [.slice [] .full])/\mM Tryz.prog 159=false:=⟨kR,kR,kR,kR⟩
theorem YG:cV Tryz.prog 303=some ⟨false,1,24⟩/\dH Tryz.prog 303=some (96,⟨false,1,24⟩)/\dC Tryz.prog 303=some (.slice [] .full)/\mM Tryz.prog 303=false:=⟨kR,kR,kR,kR⟩
set_option maxRecDepth 4000
theorem EF(k:Int):PC Tryz.prog 102 [aB k] (.bool (BE k)):=by
 refine dN (N:=9) Tryz.func102 rfl rfl z6 (by simp[aZ.int,aZ.str]) (.bool _) ?_;refine nV ?_;refine gE y3 ?_;refine wQ ?_;refine wT ⟨.inr rfl,_,rfl, ?_⟩;simp only[jN,seval,aB,qC]
 try rfl
theorem MR(xs:List (List UInt8))(t:List UInt8)(hx:xs.length<=maxLen):PC Tryz.prog 151 [.slice (xs.map PV.str) .none, .str t] (aB (uN (λx=>decide (t=x)) xs)):=by
 refine dN (N:=19) Tryz.func151 rfl rfl z6 (by simp[cQ,aZ.str]) (.int _ _) ?_;refine nV ?_;refine qE (a2 y9 fQ) ?_;refine wQ ?_;refine fN (σ:=Unit) (xs.length) (λ(s:Unit)=> [(0, .slice (xs.map PV.str) .none),(1, .str t)]) [0,1] ([]) (λ(s:Unit)=> []) (λ(i:Nat) (s:Unit)=>(xs.take i).any (λx=>decide (t=x))=false) (()) ([]) rfl rfl rfl rfl rfl rfl rfl rfl rfl z7 z7 z7 (λ_=>rfl) (hx) ⟨(Zf tN),(Zf tN),(Zf tN),(Zf tN),trivial⟩ (Zf tN) z6 (λ_ _ _=>by first|exact aTn _| (simp only[aTi];omega)) ?_ ?_ ?_
 ·exact λi s hg=>⟨by first|exact dF _| (simp only[aT4];assumption)| (refine iK hb' z6 ?_;exact xH),xR⟩
 ·intro i s hi hg;have g1:=bS hi;have g2:=eH PV.str hi;refine qE (a3 g1 tN g2) ?_;refine qE (a5 y9 fQ g1 tN g2) ?_;refine qI (a3 g1 tN g2) (λb0=> ?_) (λb0=> ?_)
  ·
   refine qE (a3 g1 tN g2) ?_;refine wQ ?_;refine wT ⟨.inr rfl,_,rfl, ?_⟩;rw[JJ hi b0 hg];rfl
  ·
   refine qK ?_;exact⟨⟨rfl,rfl,trivial⟩,(),[],⟨rfl,rfl,trivial⟩,rfl,eS hi hg b0⟩
 ·intro s hg;rw[aUd]at hg;refine nV ?_;refine wQ ?_;refine wT ⟨.inr rfl,_,rfl, ?_⟩;rw[AH hg];rfl
theorem NP(xs:List (List UInt8))(t:List UInt8)(hx:xs.length<=maxLen):PC Tryz.prog 132 [.slice (xs.map PV.str) .none, .str t] (.bool (xs.any λx=>decide (t=x))):=by
 refine dN (N:=9) Tryz.func132 rfl rfl z6 (by simp[cQ,aZ.str]) (.bool _) ?_;refine nV ?_;refine KT 2 ?_;refine KW RH (MR xs t hx _) ?_;refine qX y3 ?_;refine wQ ?_;refine wT ⟨.inr rfl,_,rfl, ?_⟩;rw[<-vH];rfl
theorem YJ{H:aC}{ip pos:Nat}{toks:List Tk}{st:PV}(hp:H[ip]? =some (.row [.slice (toks.map Tk.enc) .none, .int .i64 (pos:Nat),st]))(hl:toks.length<=4611686018427387904)(hpos:pos<=toks.length):
  aN Tryz.prog 92 [.optr ip 0] H λr' H'=>r'=(aG toks pos).enc/\H'=H:=by
 have q:∀L,(H++L)[ip]? =some (.row [.slice (toks.map Tk.enc) .none, .int .i64 (pos:Nat),st]):=λL=>by rw[aSv (lG hp)];exact hp
 have hip:=lG hp;have ff:∀k,(ip=H.length+k)=False:=λk=>by simp;omega
 have ff0:(ip=H.length)=False:=by simp;omega
 refine gK (N:=43) Tryz.func92 rfl rfl z6 (Tk.bel _ _) λhb'=> ?_;have x1:=a3 q ff ff0;refine qE (a2 lT x1) ?_;refine qE (a3 y3 gF x1) ?_;refine qB ?_;have x2:=a3 q ff ff0;refine iD (σ:=Nat) (λ(j:Nat)=> [(0, .optr ip 0),(2, .optr H.length 0),(3,aB j)]) (H) (λ(j:Nat)=> [.row [.int .i64 0, .str []]]) (λ(j:Nat)=>toks.length-j) (λ(j:Nat)=>j<=toks.length/\aG toks pos=aG toks j) (pos) ([]) ⟨(Zf x2),(Zf x2),(Zf x2),trivial⟩ (Zf x2) (⟨hpos,rfl⟩) (λ_ _=>by first|exact aTn _| (simp only[aTi];omega)) ?_ ?_
 ·exact λj hg=>⟨by first|exact dF _| (simp only[aT4];assumption)| (refine iK hb' z6 ?_;exact xH),xR⟩
 ·intro j hg;obtain⟨hj,hpk⟩:=hg;rcases aSk j toks.length with hi|hi
  ·
   have g1:=bS hi;have g2:=eH Tk.enc hi;have g3:decide ((j:Int)<(toks.length:Int))=true:=decide_eq_true z8;have hne:decide ((j:Int)=(toks.length:Int))=false:=decide_eq_false z8;have gw:IntKind.i64.wrap ((j:Int)+1)=((j+1:Nat):Int):=by rw[aY z8 z8];omega
   refine wQ ?_;refine wR ?_;refine bO ?_;have x2:=a5 g1 g2 g3 gw (a2 hne x1);refine gT 16 (a5 y3 JZ gF lT (a2 tN x2)) ?_;refine gP (a2 tN x2) aAv (λhc=>EF _ _) ?_;refine gX (a2 tN x2) ?_;refine qI (a2 tN x2) (λbt25=> ?_) (λbt25=> ?_)
   ·
    skip
    refine qK ?_;refine qB ?_;refine qL [0,2,3] (a2 tN x2) ?_;refine qE (a3 y3 tN x2) ?_
    try simp only[aW,aO]
    exact⟨j+1,[],z8,⟨rfl,rfl,rfl,trivial⟩,(aT4 _).symm,z8,by rw[hpk];exact xK hi bt25⟩
   ·
    skip
    refine wQ ?_;refine bD ?_;simp only[aW,aO,reduceIte,Nat.reduceEqDiff,aUb,if_true,if_false];refine qL [0,2,3] (a2 tN x2) ?_;refine qE (a5 y3 JZ gF lT (a2 tN x2)) ?_;refine qF (a2 tN x2) ?_;refine qK ?_;refine qE (a5 JZ gF lT tN x2) ?_;refine wQ ?_;refine wT ⟨.inr rfl,_,_,(cD 2 77 rfl lI z7 (by simp only[jL,jN,seval,aB,qC,q,ff,ff0,g1,g2,g3,gw,hne,tN]<;>with_reducible rfl)), ?_,ZW⟩;rw[hpk];first| (rw[oY z8];rfl)| (rw[rV hi bt25];rfl)
  ·
   have hje:j=toks.length:=z8
   have g3:decide ((j:Int)<(toks.length:Int))=false:=decide_eq_false z8;have hne:decide ((j:Int)=(toks.length:Int))=true:=decide_eq_true z8;refine wQ ?_;refine wR ?_;refine bO ?_;have x3:=a3 g3 hne x1;refine gT 8 (a5 y3 JZ gF lT x3) ?_;refine gS x3 ?_;refine gS x3 ?_;refine gS x3 ?_;refine gS x3 ?_;refine gS x3 ?_;refine gS x3 ?_;refine gS x3 ?_;refine gS x3 ?_;refine gS x3 ?_;refine gX x3 ?_;refine qF x3 ?_;refine wQ ?_;refine bD ?_;simp only[aW,aO,reduceIte,Nat.reduceEqDiff,aUb,if_true,if_false];refine qL [0,2,3] x3 ?_;refine qE (a5 y3 JZ gF lT x3) ?_;refine ZG (a3 g3 hne x2) ?_;refine qE (a2 lT x3) ?_;refine wQ ?_;refine wT ⟨.inr rfl,_,_,(cD 2 77 rfl lI z7 (by simp only[jL,jN,seval,aB,qC,q,ff,ff0,g3,hne]<;>with_reducible rfl)), ?_,ZW⟩;rw[hpk];first| (rw[oY z8];rfl)| (rw[rV hi bt25];rfl)
theorem fM{H:aC}{ip pos:Nat}{toks:List Tk}{st:PV}(hp:H[ip]? =some (.row [.slice (toks.map Tk.enc) .none, .int .i64 (pos:Nat),st]))(hl:toks.length<=4611686018427387904)(hpos:pos<=toks.length)(xs:List (List UInt8))(hx:xs.length<=maxLen):aN Tryz.prog 93 [.optr ip 0, .slice (xs.map PV.str) .none] H λr' H'=>r'= .bool (eI (aG toks pos) xs)/\H'=H:=by
 have q:∀L,(H++L)[ip]? =some (.row [.slice (toks.map Tk.enc) .none, .int .i64 (pos:Nat),st]):=λL=>by rw[aSv (lG hp)];exact hp
 have hip:=lG hp;have ff:∀k,(ip=H.length+k)=False:=λk=>by simp;omega
 have ff0:(ip=H.length)=False:=by simp;omega
 refine gK (N:=22) Tryz.func93 rfl rfl z6 ((.bool _)) λhb'=> ?_;have x1:=a3 q ff ff0;refine qE x1 ?_;refine qT 1 x1 ?_;refine qP x1 AU (YJ hp hl hpos) ?_;refine qX (a2 lT x1) ?_;refine wQ ?_;refine wR ?_;refine bO ?_;refine gT 12 (a4 y3 y9 lT x1) ?_;refine gP x1 PJ (λhc=>NP xs (aG toks pos).text hx _) ?_;refine gX x1 ?_;refine wQ ?_;refine wT ⟨.inr rfl,_,_,rfl, ?_,ZW⟩;simp only[jN,seval,aB,qC]
 try rfl
theorem xE{H:aC}{ip pos:Nat}{toks:List Tk}{st:PV}(hp:H[ip]? =some (.row [.slice (toks.map Tk.enc) .none, .int .i64 (pos:Nat),st]))(hl:toks.length<=4611686018427387904)(hpos:pos<=toks.length):aN Tryz.prog 92 [.optr ip 0] H λr' H'=>r'= .agg [.int .i64 (aG toks pos).kind, .str (aG toks pos).text]/\H'=H:=YJ hp hl hpos
theorem CA{H:aC}{ip pos:Nat}{toks:List Tk}{st:PV}(hp:H[ip]? =some (.row [.slice (toks.map Tk.enc) .none, .int .i64 (pos:Nat),st]))(hl:toks.length<=4611686018427387904)(hpos:pos<=toks.length):aN Tryz.prog 53 [.optr ip 0] H λr' H'=>r'= .bool (decide ((aG toks pos).kind=100))/\H'=H:=by
 have q:∀L,(H++L)[ip]? =some (.row [.slice (toks.map Tk.enc) .none, .int .i64 (pos:Nat),st]):=λL=>by rw[aSv (lG hp)];exact hp
 have hip:=lG hp;have ff:∀k,(ip=H.length+k)=False:=λk=>by simp;omega
 have ff0:(ip=H.length)=False:=by simp;omega
 refine gK (N:=7) Tryz.func53 rfl rfl z6 ((.bool _)) λhb'=> ?_;refine ZE (a3 q ff ff0) ?_;refine ZT 1 (a3 q ff ff0) ?_;refine ZP (a3 q ff ff0) AU (xE hp hl hpos) ?_;refine nO (by simp only[kA,seval,y3,lT,aB,q,ff,ff0]<;>with_reducible rfl) z7 ?_;refine wQ ?_;refine wT ⟨.inr rfl,_,_,rfl, ?_,ZW⟩;simp only[jN,seval,aB]
 try rfl
theorem fA{H:aC}{ip pos:Nat}{toks:List Tk}{st:PV}(hp:H[ip]? =some (.row [.slice (toks.map Tk.enc) .none, .int .i64 (pos:Nat),st]))(hl:toks.length<=4611686018427387904)(hpos:pos<=toks.length):aN Tryz.prog 226 [.optr ip 0] H λr' H'=>r'= .bool (decide ((aG toks pos).kind=103))/\H'=H:=by
 have q:∀L,(H++L)[ip]? =some (.row [.slice (toks.map Tk.enc) .none, .int .i64 (pos:Nat),st]):=λL=>by rw[aSv (lG hp)];exact hp
 have hip:=lG hp;have ff:∀k,(ip=H.length+k)=False:=λk=>by simp;omega
 have ff0:(ip=H.length)=False:=by simp;omega
 refine gK (N:=7) Tryz.func226 rfl rfl z6 ((.bool _)) λhb'=> ?_;refine ZE (a3 q ff ff0) ?_;refine ZT 1 (a3 q ff ff0) ?_;refine ZP (a3 q ff ff0) AU (xE hp hl hpos) ?_;refine nO (by simp only[kA,seval,y3,lT,aB,q,ff,ff0]<;>with_reducible rfl) z7 ?_;refine wQ ?_;refine wT ⟨.inr rfl,_,_,rfl, ?_,ZW⟩;simp only[jN,seval,aB]
 try rfl
structure aB9(P:Program)(N:Nat)(ops:Array Oper)(m:Nat)(S:List rN)(x:aD×aC):Prop where
 ops_eq:∀i s,S[i]? =some s->ops.toList[m+i]? =some s.o
 rob:∀i s,S[i]? =some s->Rob P N ops s.o (cX (λj=>decide (j<m+i)) m S x).1 (cX (λj=>decide (j<m+i)) m S x).2 s.v s.eff s.rd
 own:∀s∈S,∀e∈s.eff,e.1∈s.rd
 apart:∀i j s s',i<j->S[i]? =some s->S[j]? =some s'->((cL ops.toList).getD (m+j) 0).testBit (m+i)=true\/((∀e∈s.eff,e.1∉s'.rd)/\∀e∈s'.eff,e.1∉s.rd)
section
variable{P:Program}{N nb:Nat}{ops:Array Oper}{S:List rN}{x:aD×aC}
theorem aCh{m:Nat}{K:Exit->Act->World->Prop}(hb:lH ops.toList=true)(hs:mS ops.toList (cL ops.toList)=true)(tr:aB9 P N ops m S x)(hmS:m+S.length<=ops.size)
  (hbar:∀j i,m+S.length<=j->j<ops.size->m<=i->i<m+S.length->((cL ops.toList).getD j 0).testBit i=true) (E0:aE)
  (hnext:∀(fuel t:Nat) (listed:Array Bool) (E:aE) (a:Act),listed.size=ops.size->((List.range ops.size).filter λi=> !listed.getD i true).length<=fuel->(∀j,j<ops.size->listed.getD j false=decide (j<m+S.length))->
   E0.leN nb E->E.Ok->E.H=(cX (λ_=>true) m S x).2->eR E.view N a (cX (λ_=>true) m S x).1->wpOps P ops K (oQ ops fuel t listed) a E.w):
  ∀(q fuel t:Nat) (listed:Array Bool) (E:aE) (a:Act),listed.size=ops.size->((List.range ops.size).filter λi=> !listed.getD i true).length<=fuel->((List.range ops.size).filter λi=> !listed.getD i true).length<=q->
   (∀j o,ops.toList[j]? =some o->listed.getD j false=true->∀e∈o.after.toList,Region.binds .any e=true->listed.getD e.on false=true)->
   (∀j,j<m->listed.getD j false=true)->(∀j,m+S.length<=j->listed.getD j false=false)->
   E0.leN nb E->E.Ok->E.H=(cX (λj=>listed.getD j false) m S x).2->eR E.view N a (cX (λj=>listed.getD j false) m S x).1->wpOps P ops K (oQ ops fuel t listed) a E.w:=by
 intro q
 induction q with
 |zero=>
  intro fuel t listed E a hsz hcnt hq hcl hlo hhi hle ho hH ht;have hall:∀j,j<ops.size->listed.getD j false=true:=by
   intro j hj;cases hqq:listed.getD j false with
   |true=>rfl
   |false=>
    have hm:j∈(List.range ops.size).filter λi=> !listed.getD i true:=by
     rw[List.mem_filter];refine⟨aT0.2 z8, ?_⟩;rw[aSo,aSt z8]at hqq⊢;simpa using hqq
    have:=List.length_pos_of_mem hm;omega
  have hend:ops.size<=m+S.length:=by
   rcases aSk (m+S.length) ops.size with h|h
   ·have h1:=hall _ h;rw[hhi _ (aSl _)]at h1;cases h1
   ·exact h
  rw[gW (D':=λ_=>true) S m x (λj hj=>by simpa using hall (m+j) z8)]at hH ht;exact hnext fuel t listed E a hsz hcnt (λj hj=>by rw[hall j hj,decide_eq_true (by omega:j<m+S.length)]) hle ho hH ht
 |succ q ih=>
  intro fuel t listed E a hsz hcnt hq hcl hlo hhi hle ho hH ht
  by_cases hdone:∀j,j<m+S.length->listed.getD j false=true
  ·rw[gW (D':=λ_=>true) S m x (λj hj=>by simpa using hdone (m+j) z8)]at hH ht;refine hnext fuel t listed E a hsz hcnt (λj hj=> ?_) hle ho hH ht;rcases aSk j (m+S.length)with h|h
   ·rw[hdone j h,decide_eq_true h]
   ·rw[hhi j h,decide_eq_false z8]
  ·have hex:∃j,j<ops.size/\listed.getD j false=false:=by
    apply Classical.byContradiction;intro hno;apply hdone;intro j hj;cases hqq:listed.getD j false with
    |true=>rfl
    |false=>exact(hno ⟨j,z8,hqq⟩).elim
   obtain⟨j0,⟨hj0,hl0⟩,hmin⟩:=sK hex;have zF:∀(j:Nat),j<ops.size->∀b c:Bool,listed.getD j b=listed.getD j c:=by
    intro j hj b c;rw[aSo,aSo,aSt z8];rfl
   have hfuel:∃f,fuel=f+1:=by
    have hm:j0∈(List.range ops.size).filter λi=> !listed.getD i true:=by
     rw[List.mem_filter];exact⟨aT0.2 hj0,by rw[zF j0 hj0 true false,hl0];rfl⟩
    have:=List.length_pos_of_mem hm;exact⟨fuel-1,z8⟩
   obtain⟨fuel,rfl⟩:=hfuel;unfold oQ;have hready:eM ops listed j0=true:=by
    unfold eM;rw[zF j0 hj0 true false,hl0,aSt hj0];simp only[aTp,Bool.true_and,aS1,aSu];rw[Array.all_eq_true'];intro e he;cases hbd:Region.binds .any e with
    |false=>rfl
    |true=>
     have hon:=lV hb (i:=j0) (o:=ops[j0]) (by simp[hj0]) (e:=e) (by simpa using he) hbd;simp only[aTt,Bool.false_or];cases hqq:listed.getD e.on false with
     |true=>rfl
     |false=>have:=hmin e.on ⟨z8,hqq⟩;omega
   have hne:(List.range ops.size).filter (eM ops listed)≠ []:=by
    intro hnil;have:j0∈(List.range ops.size).filter (eM ops listed):=List.mem_filter.2 ⟨aT0.2 hj0,hready⟩;rw[hnil]at this;cases this
   have hpos:0<((List.range ops.size).filter (eM ops listed)).length:=List.length_pos_iff.2 hne;have hlt:=Nat.mod_lt t hpos;rw[aTd hlt];simp only;generalize hi:((List.range ops.size).filter (eM ops listed))[t%((List.range ops.size).filter (eM ops listed)).length]=i;have him:i∈(List.range ops.size).filter (eM ops listed):=by rw[<-hi];exact aTk hlt
   obtain⟨him1,him2⟩:=List.mem_filter.1 him;rw[aT0]at him1;unfold eM at him2;rw[zF i him1 true false,aSt him1]at him2;simp only[aSe,aSf,aS1,aSu]at him2;obtain⟨hnl,hpre⟩:=him2;rw[Array.all_eq_true']at hpre;have hso0:ops.toList[i]? =some ops[i]:=by rw[aTf,aSt him1]
   have hprei:∀e∈(ops[i]).after.toList,Region.binds .any e=true->listed.getD e.on false=true:=by
    intro e he hbd;have:=hpre e (by simpa using he);rw[hbd]at this;simpa using this
   have hBfD:∀ {k j:Nat},Bf ops.toList k j->listed.getD j false=true->listed.getD k false=true:=λhbf hj=>hbf.closed (listed:=λj=>listed.getD j false) hcl hj;have hBfI:∀ {k:Nat},Bf ops.toList k i->listed.getD k false=true:=λhbf=>Bf.pre (listed:=λj=>listed.getD j false) (i:=i) (λj o hoo hj e he hbd=>by
    rcases hj with hj|rfl
    ·exact hcl j o hoo hj e he hbd
    ·rw[hso0]at hoo;cases hoo;exact hprei e he hbd) hbf
   have hbmB:∀ {k j:Nat},((cL ops.toList).getD j 0).testBit k=true->Bf ops.toList k j:=λh=>(oU ops.toList _ ops.toList [] rfl z6).2 _ _ h;have hge:m<=i:=by
    rcases aSk i m with h|h
    ·rw[hlo i h]at hnl;cases hnl
    ·exact h
   have hltS:i<m+S.length:=by
    rcases aSk i (m+S.length)with h|h
    ·exact h
    ·exact(hdone λj hj=>by
      rcases aSk j m with h1|h1
      ·exact hlo j h1
      ·exact hBfI (hbmB (hbar i j h him1 h1 hj))).elim
   obtain⟨d,rfl⟩:∃d,i=m+d:=⟨i-m,z8⟩;obtain⟨s,hs_i⟩:∃s,S[d]? =some s:=⟨S[d]'z8,aTd _⟩;have hop:=tr.ops_eq;have hso:=hop d s hs_i;have hop_i:ops[m+d]? =some s.o:=by rw[aTf]at hso;exact hso
   have hso':ops[m+d]=s.o:=by rw[aSt him1]at hop_i;simpa using hop_i
   have hun1:∀j,m+d<j->listed.getD j false=true->((cL ops.toList).getD j 0).testBit (m+d)=false:=by
    intro j hij hj;cases hqq:((cL ops.toList).getD j 0).testBit (m+d)with
    |false=>rfl
    |true=>have:=hBfD (hbmB hqq) hj;rw[hnl]at this;cases this
   have hun2:∀k,k<m+d->listed.getD k false=false->((cL ops.toList).getD (m+d) 0).testBit k=false:=by
    intro k hki hk;cases hqq:((cL ops.toList).getD (m+d) 0).testBit k with
    |false=>rfl
    |true=>have:=hBfI (hbmB hqq);rw[hk]at this;cases this
   let D:Nat->Bool:=λj=>listed.getD j false
   have hslot:∀t∈rF ops.toList s.o,(cX D m S x).1 t=(cX (λj=>decide (j<m+d)) m S x).1 t:=by
    intro t htm;refine AK S m x x rfl (λj s' hj hD=> ?_);have hoj:=hop j s' hj
    by_cases hji:m+j<m+d
    ·have hDj:D (m+j)=false:=by
      cases hqq:D (m+j)with
      |false=>rfl
      |true=>rw[hqq]at hD;simp[hji]at hD
     exact(fY hs hji hoj hso (hun2 _ hji hDj)).2.1 t htm
    ·have hDj:D (m+j)=true:=by
      cases hqq:D (m+j)with
      |true=>rfl
      |false=>rw[hqq]at hD;simp[hji]at hD
     have hne:m+j≠m+d:=by intro e;rw[e,show D (m+d)=false from hnl]at hDj;cases hDj
     exact(fY hs (by omega:m+d<m+j) hso hoj (hun1 _ z8 hDj)).2.2 t htm
   have hheap:∀id∈s.rd,(cX D m S x).2[id]? =(cX (λj=>decide (j<m+d)) m S x).2[id]? :=by
    intro id hid;refine zZ S m x x rfl rfl (λj s' hj hD e he heq=> ?_)
    by_cases hji:m+j<m+d
    ·have hDj:D (m+j)=false:=by
      cases hqq:D (m+j)with
      |false=>rfl
      |true=>rw[hqq]at hD;simp[hji]at hD
     rcases tr.apart j d s' s z8 hj hs_i with h|h
     ·rw[hun2 _ hji hDj]at h;cases h
     ·exact h.1 e he (heq▸hid)
    ·have hDj:D (m+j)=true:=by
      cases hqq:D (m+j)with
      |true=>rfl
      |false=>rw[hqq]at hD;simp[hji]at hD
     have hne:m+j≠m+d:=by intro e;rw[e,show D (m+d)=false from hnl]at hDj;cases hDj
     rcases tr.apart d j s s' z8 hs_i hj with h|h
     ·rw[hun1 _ z8 hDj]at h;cases h
     ·exact h.2 e he (heq▸hid)
   have hlenr:(cX D m S x).2.length=(cX (λj=>decide (j<m+d)) m S x).2.length:=by rw[uT,uT]
   have hins:cX (λj=>(listed.setIfInBounds (m+d) true).getD j false) m S x=s.app (cX D m S x):=by
    rw[<-uK D (i:=m+d) hnl S m x s z8 (by rw[show m+d-m=d by omega];exact hs_i)]
    ·refine gW S m x (λj hj=> ?_);simp only[D];rw[aSo,aSo]
     by_cases e:m+j=m+d
     ·rw[e,aSp z8];simp
     ·rw[aSq (λq=>e q.symm)];have:(m+j==m+d)=false:=by simpa using e
      rw[this];simp
    ·intro j s' hij hj hDj;have hb':=hun1 _ hij hDj;refine⟨(fY hs hij hso (hop j s' hj) hb').1,λe he y hy heq=> ?_⟩;rcases tr.apart d j s s' z8 hs_i hj with h|h
     ·rw[hb']at h;cases h
     ·exact h.1 e he (heq▸tr.own s' (List.mem_of_getElem? hj) y hy)
   have hcnt0:((List.range ops.size).filter λk=> !(listed.setIfInBounds (m+d) true).getD k true).length<((List.range ops.size).filter λk=> !listed.getD k true).length:=by
    have e1:(List.range ops.size).filter (λk=> !(listed.setIfInBounds (m+d) true).getD k true)=((List.range ops.size).filter λk=> !listed.getD k true).filter λk=>k != m+d:=by
     rw[List.filter_filter];apply List.filter_congr;intro k hk;rw[aSo,aSo]
     by_cases e:k=m+d
     ·rw[e,aSp z8];simp
     ·rw[aSq (λq=>e q.symm)];simp[e]
    rw[e1];refine List.length_filter_lt_length_iff_exists.2 ⟨m+d, ?_,z6⟩;rw[List.mem_filter];exact⟨aT0.2 him1,by rw[zF _ him1 true false,hnl];rfl⟩
   have hup:∀k,listed.getD k false=true->(listed.setIfInBounds (m+d) true).getD k false=true:=by
    intro k hk;rw[aSo]at hk⊢
    by_cases q:k=m+d
    ·rw[q,aSp z8];rfl
    ·rw[aSq (λz=>q z.symm)];exact hk
   have hdn:∀k,k≠m+d->(listed.setIfInBounds (m+d) true).getD k false=listed.getD k false:=by
    intro k hk;rw[aSo,aSq (λz=>hk z.symm),<-aSo]
   have hcl':∀j o,ops.toList[j]? =some o->(listed.setIfInBounds (m+d) true).getD j false=true->∀e∈o.after.toList,Region.binds .any e=true->(listed.setIfInBounds (m+d) true).getD e.on false=true:=by
    intro j o hoo hj e he hbd;apply hup
    by_cases q:j=m+d
    ·subst q;rw[hso]at hoo;cases hoo;exact hprei e (by rw[hso'];exact he) hbd
    ·rw[hdn j q]at hj;exact hcl j o hoo hj e he hbd
   have hlo':∀j,j<m->(listed.setIfInBounds (m+d) true).getD j false=true:=λj hj=>hup j (hlo j hj);have hhi':∀j,m+S.length<=j->(listed.setIfInBounds (m+d) true).getD j false=false:=λj hj=>by rw[hdn j z8];exact hhi j hj
   have hrob:=tr.rob d s hs_i (cX D m S x).1 (cX D m S x).2 hslot hheap hlenr E a ho hH ht;refine FE hop_i ?_;rcases hrob with⟨hw,he0,hv0⟩| ⟨hw,hgo⟩
   ·rw[if_neg (by rw[hw];simp)];refine ih _ _ _ E _ (by simp[hsz]) z8 z8 hcl' hlo' hhi' hle ho ?_ ?_
    ·rw[hins];simp only[rN.app,he0,lQ,List.foldl_nil];exact hH
    ·rw[hins];simp only[rN.app];rcases hv0 with e|e
     ·rw[e];exact ht.put s.o.dst (.junk _)
     ·rw[e];exact ht.put s.o.dst (.tup _ _ rfl (λi h=>absurd h z6))
   ·rw[if_pos hw];refine hgo _ _ (λE' val hle' ho' hH' hv'=> ?_);refine ih _ _ _ E' _ (by simp[hsz]) z8 z8 hcl' hlo' hhi' (hle.trans (hle'.leN nb)) ho' ?_ ?_
    ·rw[hins];simp only[rN.app];exact hH'
    ·rw[hins];simp only[rN.app];exact(ht.mono hle'.view).put s.o.dst hv'
def JL(P:Program)(N:Nat)(ops:Array Oper)(nx:aD->aC->Prop):Nat->List Oper->fD->aD->aC->Prop
 |_,[],_,T,H=>nx T H
 |k,o::l,prev,T,H=>∃v eff rd,Rob P N ops o T H v eff rd/\(∀e∈eff,e.1∈rd)/\
   (∀p∈prev,((cL ops.toList).getD k 0).testBit p.1=true\/((∀id∈p.2.2,id∉rd)/\∀e∈eff,e.1∉p.2.1))/\
   JL P N ops nx (k+1) l (prev++ [(k,rd,eff.map (·.1))]) (bU T o.dst v) (lQ H eff)
theorem DH{nx:aD->aC->Prop}{m:Nat}:∀(l:List Oper) (k:Nat) (prev:fD) (S0:List rN),m+S0.length=k->(∀i s,S0[i]? =some s->ops.toList[m+i]? =some s.o)->(∀i o,l[i]? =some o->ops.toList[k+i]? =some o)->
  (∀(i:Nat) (s:rN),S0[i]? =some s->Rob P N ops s.o (cX (λj=>decide (j<m+i)) m S0 x).1 (cX (λj=>decide (j<m+i)) m S0 x).2 s.v s.eff s.rd)->
  (∀s∈S0,∀e∈s.eff,e.1∈s.rd)->
  (∀(i j:Nat) (s s':rN),i<j->S0[i]? =some s->S0[j]? =some s'->((cL ops.toList).getD (m+j) 0).testBit (m+i)=true\/((∀e∈s.eff,e.1∉s'.rd)/\∀e∈s'.eff,e.1∉s.rd))->
  (∀(i:Nat) (s:rN),S0[i]? =some s->(m+i,s.rd,s.eff.map (·.1))∈prev)->
  JL P N ops nx k l prev (cX (λ_=>true) m S0 x).1 (cX (λ_=>true) m S0 x).2->
  ∃S,S.length=S0.length+l.length/\aB9 P N ops m S x/\nx (cX (λ_=>true) m S x).1 (cX (λ_=>true) m S x).2
 | [],k,prev,S0,hk,ho,ho2,h1,h2,h3,h4,hd=>⟨S0,rfl,⟨ho,h1,h2,h3⟩,hd⟩
 |o::l,k,prev,S0,hk,ho,ho2,h1,h2,h3,h4,hd=>by
  obtain⟨v,eff,rd,hr,how,hap,hd'⟩:=hd
  let s:rN:=⟨o,v,eff,rd⟩
  have hpre:∀i,m+i<=k->cX (λj=>decide (j<m+i)) m (S0++ [s]) x=cX (λj=>decide (j<m+i)) m S0 x:=by
   intro i hi;rw[nS];exact sF _ _ _ (λj hj=>by simp at hj;subst hj;simp;omega)
  have hfull:cX (λj=>decide (j<k)) m S0 x=cX (λ_=>true) m S0 x:=gW S0 m x (λj hj=>by simp;omega);have hext:cX (λ_=>true) m (S0++ [s]) x=s.app (cX (λ_=>true) m S0 x):=by
   rw[nS];rfl
  have hk1:m+(S0++ [s]).length=k+1:=by rw[aTi,aSi];omega
  have key:=DH l (k+1) (prev++ [(k,rd,eff.map (·.1))]) (S0++ [s]) hk1 ?_ (λi o' h=>by have:=ho2 (i+1) o' (by simpa using h);rw[show k+1+i=k+(i+1)by omega];exact this) ?_ ?_ ?_ ?_ (by rw[hext];exact hd')
  ·obtain⟨S,q1,q2,q3⟩:=key;refine⟨S, ?_,q2,q3⟩;rw[q1,aTi,aSi,aS2];omega
  ·intro i s' hs'
   by_cases hi:i<S0.length
   ·rw[aSv hi]at hs';exact ho i s' hs'
   ·have hik:i=S0.length:=by have:=lG hs';simp at this;omega
    subst hik;rw[aSw (aSl _)]at hs';simp at hs';subst hs';have:=ho2 0 o rfl;rw[hk];simpa using this
  ·intro i s' hs'
   by_cases hi:i<S0.length
   ·rw[aSv hi]at hs';rw[hpre i z8];exact h1 i s' hs'
   ·have hik:i=S0.length:=by have:=lG hs';simp at this;omega
    subst hik;rw[aSw (aSl _)]at hs';simp at hs';subst hs';rw[hpre _ z8,hk,hfull];exact hr
  ·intro s' hs';rcases aTs.1 hs' with hs'|hs'
   ·exact h2 s' hs'
   ·simp at hs';subst hs';exact how
  ·intro i j s1 s2 hij hs1 hs2;have hi:i<S0.length:=by have:=lG hs2;simp at this;omega
   rw[aSv hi]at hs1
   by_cases hj:j<S0.length
   ·rw[aSv hj]at hs2;exact h3 i j s1 s2 hij hs1 hs2
   ·have hjk:j=S0.length:=by have:=lG hs2;simp at this;omega
    subst hjk;rw[aSw (aSl _)]at hs2;simp at hs2;subst hs2;rw[hk];rcases hap _ (h4 i s1 hs1)with h|h
    ·exact .inl h
    ·refine .inr ⟨λe he=>h.1 _ (aTq.2 ⟨e,he,rfl⟩),h.2⟩
  ·intro i s' hs'
   by_cases hi:i<S0.length
   ·rw[aSv hi]at hs';exact aTs.2 (.inl (h4 i s' hs'))
   ·have hik:i=S0.length:=by have:=lG hs';simp at this;omega
    subst hik;rw[aSw (aSl _)]at hs';simp at hs';subst hs';exact aTs.2 (.inr (by simp[s,hk]))
def kB(P:Program)(N nb:Nat)(ops:Array Oper)(Q:dG)(k:Nat)(T:aD)(H:aC):Prop:=
 ∀(E0:aE) (fuel t:Nat) (listed:Array Bool) (E:aE) (a:Act),listed.size=ops.size->((List.range ops.size).filter λi=> !listed.getD i true).length<=fuel->(∀j,j<ops.size->listed.getD j false=decide (j<k))->
  E0.leN nb E->E.Ok->E.H=H->eR E.view N a T->wpOps P ops (BR N nb E0 Q) (oQ ops fuel t listed) a E.w
variable{Q:dG}{T:aD}{H:aC}
theorem BA{k:Nat}{listed:Array Bool}(hb:lH ops.toList=true)(hsz:listed.size=ops.size)(hl:∀j,j<ops.size->listed.getD j false=decide (j<k)):
  ∀j o,ops.toList[j]? =some o->listed.getD j false=true->∀e∈o.after.toList,Region.binds .any e=true->listed.getD e.on false=true:=by
 intro j o hj hlj e he hbd;have hjs:j<ops.size:=by have:=lG hj;simpa using this
 have hon:=lV hb hj he hbd;rw[hl j hjs]at hlj;have:=of_decide_eq_true hlj;rw[hl e.on z8,decide_eq_true (by omega:e.on<k)]
theorem fF(h:Q .normal T H):kB P N nb ops Q ops.size T H:=by
 intro E0 fuel t listed E a hsz hcnt hl hle ho hH ht;have hrs:(List.range ops.size).filter (eM ops listed)= []:=by
  rw[List.filter_eq_nil_iff];intro j hj;rw[aT0]at hj;have:=hl j hj;rw[decide_eq_true hj,aSo,aSt z8]at this;unfold eM;rw[aSo,aSt z8];simp only[aSu]at this⊢;simp[this]
 have hnil:oQ ops fuel t listed= []:=by
  cases fuel with
  |zero=>rfl
  |succ f=>unfold oQ;rw[hrs];rfl
 rw[hnil];exact⟨E,T,rfl,hle,ho,ht,hH▸h⟩
theorem NQ{m n:Nat}(hb:lH ops.toList=true)(hs:mS ops.toList (cL ops.toList)=true)(hn:m+n<=ops.size)
  (hbar:((List.range ops.size).all λj=>decide (j<m+n)||(List.range n).all λi=>((cL ops.toList).getD j 0).testBit (m+i))=true)
  (h:JL P N ops (kB P N nb ops Q (m+n)) m ((ops.toList.drop m).take n) [] T H):kB P N nb ops Q m T H:=by
 intro E0 fuel t listed E a hsz hcnt hl hle ho hH ht;obtain⟨S,q1,q2,q3⟩:=DH (x:=(T,H)) (m:=m) _ m [] [] z6 (λi s h=>by simp at h) (λi o h=>by
  rw[List.getElem?_take]at h
  split at h
  ·rw[List.getElem?_drop]at h;exact h
  ·cases h) (λi s h=>by simp at h) (λs h=>by simp at h) (λi j s s' _ h=>by simp at h) (λi s h=>by simp at h) h
 have hlen:S.length=n:=by rw[q1];simp;omega
 have hbar':∀j i,m+S.length<=j->j<ops.size->m<=i->i<m+S.length->((cL ops.toList).getD j 0).testBit i=true:=by
  intro j i h1 h2 h3 h4;rw[aTr]at hbar;have:=hbar j (aT0.2 h2);rw[decide_eq_false (by omega:¬j<m+n),Bool.false_or,aTr]at this;have:=this (i-m) (aT0.2 z8)
  rwa [show m+(i-m)=i by omega]at this
 have hD:cX (λj=>listed.getD j false) m S (T,H)=(T,H):=sF S m _ λj hj=>by rw[hl _ z8];exact decide_eq_false z8
 refine aCh hb hs q2 z8 hbar' E0 ?_ _ fuel t listed E a hsz hcnt (aSl _) (BA hb hsz hl) (λj hj=>by rw[hl j z8];exact decide_eq_true hj) ?_ hle ho (by rw[hD];exact hH) (by rw[hD];exact ht)
 ·intro fuel t listed E a hsz hcnt hl hle ho hH ht;rw[hlen]at hl;exact q3 E0 fuel t listed E a hsz hcnt hl hle ho hH ht
 ·intro j hj;rcases aSk j ops.size with h|h
  ·rw[hl j h];exact decide_eq_false z8
  ·rw[aSo,Array.getElem?_eq_none z8];rfl
theorem aFy{k:Nat}{o:Oper}(hb:lH ops.toList=true)(hok:ops.toList[k]? =some o)
  (hbar:((List.range ops.size).all λj=>decide (j<=k)||((cL ops.toList).getD j 0).testBit k)=true)
  (h:bH P N nb ops (aW (kB P N nb ops Q (k+1)) Q) [o] T H):kB P N nb ops Q k T H:=by
 intro E0 fuel t listed E a hsz hcnt hl hle ho hH ht;have hk:k<ops.size:=by have:=lG hok;simpa using this
 have zF:∀(j:Nat),j<ops.size->∀b c:Bool,listed.getD j b=listed.getD j c:=by
  intro j hj b c;rw[aSo,aSo,aSt z8];rfl
 have hcl:=BA hb hsz hl;have hok':ops[k]? =some o:=by rw[aTf]at hok;exact hok
 have hbar':∀j,k<j->j<ops.size->((cL ops.toList).getD j 0).testBit k=true:=by
  intro j h1 h2;rw[aTr]at hbar;have:=hbar j (aT0.2 h2)
  rwa [decide_eq_false (by omega:¬j<=k),Bool.false_or]at this
 have hready:∀j,j<ops.size->eM ops listed j=decide (j=k):=by
  intro j hj;rcases Nat.lt_trichotomy j k with hlt|rfl|hgt
  ·rw[decide_eq_false (by omega:¬j=k)];unfold eM;rw[zF j hj true false,hl j hj,decide_eq_true hlt];rfl
  ·rw[decide_eq_true rfl];unfold eM;rw[zF j hj true false,hl j hj,decide_eq_false (Nat.lt_irrefl _),aSt hj];simp only[aTp,Bool.true_and,aS1,aSu];rw[Array.all_eq_true'];intro e he;cases hbd:Region.binds .any e with
   |false=>rfl
   |true=>
    have hon:=lV hb (i:=j) (o:=ops[j]) (by simp[hj]) (e:=e) (by simpa using he) hbd;rw[hl e.on z8,decide_eq_true hon];rfl
  ·rw[decide_eq_false (by omega:¬j=k)];cases hr:eM ops listed j with
   |false=>rfl
   |true=>
    unfold eM at hr;rw[zF j hj true false,aSt hj]at hr;simp only[aSe,aSf,aS1,aSu]at hr;obtain⟨_,hpre⟩:=hr;rw[Array.all_eq_true']at hpre;have hso0:ops.toList[j]? =some ops[j]:=by rw[aTf,aSt hj]
    have hbf:Bf ops.toList k j:=(oU ops.toList _ ops.toList [] rfl z6).2 _ _ (hbar' j hgt hj);have:=Bf.pre (listed:=λj=>listed.getD j false) (i:=j) (λj' o' hoo hj' e he hbd=>by
     rcases hj' with hj'|rfl
     ·exact hcl j' o' hoo hj' e he hbd
     ·rw[hso0]at hoo;cases hoo;have:=hpre e (by simpa using he);rw[hbd]at this;simpa using this) hbf
    rw[hl k hk,decide_eq_false (Nat.lt_irrefl _)]at this;cases this
 have hfilt:(List.range ops.size).filter (eM ops listed)= [k]:=by
  have e1:(List.range ops.size).filter (eM ops listed)=(List.range ops.size).filter (λj=>decide (j=k)):=List.filter_congr λj hj=>hready j (aT0.1 hj);rw[e1];have hnd:((List.range ops.size).filter λj=>decide (j=k)).Nodup:=List.nodup_range.sublist List.filter_sublist;have hm:∀x,x∈(List.range ops.size).filter (λj=>decide (j=k))↔x=k:=by
   intro x;rw[List.mem_filter,aT0];constructor
   ·rintro⟨_,h⟩;exact of_decide_eq_true h
   ·rintro rfl;exact⟨hk,decide_eq_true rfl⟩
  generalize (List.range ops.size).filter (λj=>decide (j=k))=L at hnd hm
  match L,hnd,hm with
  | [],_,hm=>exact absurd ((hm k).2 rfl) z6
  | [x],_,hm=>rw[(hm x).1 z6]
  |x::y::l,hnd,hm=>
   have h1:=(hm x).1 z6;have h2:=(hm y).1 z6;rw[List.nodup_cons]at hnd;exact absurd (by rw[h1,h2];simp) hnd.1
 have hfuel:∃f,fuel=f+1:=by
  have hm:k∈(List.range ops.size).filter λi=> !listed.getD i true:=by
   rw[List.mem_filter];exact⟨aT0.2 hk,by rw[zF k hk true false,hl k hk,decide_eq_false (Nat.lt_irrefl _)];rfl⟩
  have:=List.length_pos_of_mem hm;exact⟨fuel-1,z8⟩
 obtain⟨fuel,rfl⟩:=hfuel;unfold oQ;rw[hfilt];simp only[aSi,Nat.mod_one,aTo,Nat.div_one];have hgk:listed.getD k true=false:=by rw[zF k hk true false,hl k hk,decide_eq_false (Nat.lt_irrefl _)]
 have hsz':(listed.setIfInBounds k true).size=ops.size:=by simp[hsz]
 have hl':∀j,j<ops.size->(listed.setIfInBounds k true).getD j false=decide (j<k+1):=by
  intro j hj;rw[aSo]
  by_cases e:j=k
  ·subst e;rw[aSp z8,decide_eq_true (by omega:j<j+1)];rfl
  ·rw[aSq (λq=>e q.symm),<-aSo,hl j hj]
   by_cases h:j<k
   ·rw[decide_eq_true h,decide_eq_true (by omega:j<k+1)]
   ·rw[decide_eq_false h,decide_eq_false (by omega:¬j<k+1)]
 have hcnt':((List.range ops.size).filter λi=> !(listed.setIfInBounds k true).getD i true).length<=fuel:=by
  have e1:(List.range ops.size).filter (λj=> !(listed.setIfInBounds k true).getD j true)=((List.range ops.size).filter λj=> !listed.getD j true).filter λj=>j != k:=by
   rw[List.filter_filter];apply List.filter_congr;intro j hj;rw[aSo,aSo]
   by_cases e:j=k
   ·rw[e,aSp z8];simp
   ·rw[aSq (λq=>e q.symm)];simp[e]
  have hm:k∈(List.range ops.size).filter λi=> !listed.getD i true:=by
   rw[List.mem_filter];exact⟨aT0.2 hk,by rw[hgk];rfl⟩
  have:((List.range ops.size).filter λi=> !(listed.setIfInBounds k true).getD i true).length<((List.range ops.size).filter λi=> !listed.getD i true).length:=by
   rw[e1];exact List.length_filter_lt_length_iff_exists.2 ⟨k,hm,z6⟩
  omega
 have hgo:=h E a ho hH ht;unfold wpList at hgo;unfold wpOps;rw[hok'];simp only;have hnorm:∀a w,BR N nb E (aW (kB P N nb ops Q (k+1)) Q) .normal a w->wpOps P ops (BR N nb E0 Q) (oQ ops fuel t (listed.setIfInBounds k true)) a w:=by
  rintro a w ⟨E',T',rfl,h2,h3,h4,h5⟩;exact h5 E0 fuel t _ E' a hsz' hcnt' hl' (hle.trans h2) h3 rfl h4
 have hbad:∀e a w,e≠ .normal->BR N nb E (aW (kB P N nb ops Q (k+1)) Q) e a w->BR N nb E0 Q e a w:=by
  intro e a w hne hx;obtain⟨E',T',h1,h2,h3,h4,h5⟩:=hx;refine⟨E',T',h1,hle.trans h2,h3,h4, ?_⟩;cases e with
  |normal=>exact(hne rfl).elim
  |_=>exact h5
 have hout:LetsOut (BR N nb E (aW (kB P N nb ops Q (k+1)) Q))->LetsOut (BR N nb E0 Q):=λ⟨a,w,x⟩=>⟨a,w,hbad _ _ _ z6 x⟩
 split at hgo
 ·rename_i hw;rw[if_pos hw];rcases hgo with hgo| ⟨h1,h2⟩
  ·left;unfold Oper.wp at hgo⊢;generalize (execOp a.eval o).run P E.w=r at hgo⊢;unfold Oper.upon at hgo⊢
   split at hgo
   ·exact hnorm _ _ hgo
   ·exact hnorm _ _ hgo
   ·exact hnorm _ _ hgo
   ·refine hgo.mono λe w'' he=> ?_;cases e with
    |returned v=>exact hnorm _ _ he
    |panicked ch=>exact hbad _ _ _ z6 he
    |outgrown=>exact hout he
   ·exact hgo.mono λv w'' he=>hnorm _ _ he
   ·exact hbad _ _ _ z6 hgo
   ·exact hgo.elim
  ·exact .inr ⟨h1,hout h2⟩
 ·rename_i hw;rw[if_neg hw];exact hnorm _ _ hgo
theorem eK{id:Nat}(n:Nat)(hok:mP P ops.toList=true)(h:kB P N nb ops Q 0 T (H++aS6 n .unborn)):eA P N nb (.region id ops true) Q T H:=by
 refine CT n ?_;unfold mP at hok;simp only[aSe]at hok;intro E a ho hH ht;refine wp_region_draw λt=> ?_;rw[hok.1.1];simp only[Region.schedule,Bool.true_or,if_true,Region.linearise,aCd,List.reverse_nil,aT1];refine h E ops.size t (Array.replicate ops.size false) E.drew a z6 (aSm (List.length_filter_le _ _) z6) (λj hj=> ?_) (E.drew_le.leN nb) ho.drew hH ht;rw[aSo,aSt (by simpa using hj)];simp
theorem DY{nx:aD->aC->Prop}:∀(l:List Oper) (k:Nat) (prev:fD) (T:aD) (H:aC),iI P N ops (λ_=>nx) k l prev T H->JL P N ops nx k l prev T H
 | [],_,_,_,_,h=>h
 |o::l,k,prev,T,H,⟨v,eff,rd,h1,h2,h3,h4⟩=>⟨v,eff,rd,h1,h2,h3,DY l _ _ _ _ h4⟩
def UT(m n:Nat):Nat->List Nat->Bool
 |_,[]=>true
 |j,b::l=>(Nat.blt j (m+n)||Nat.beq ((b/2^m)%2^n) (2^n-1))&&UT m n (j+1) l
theorem vY{m n:Nat}:∀(l:List Nat) (j0:Nat),UT m n j0 l=true->∀j,j<l.length->m+n<=j0+j->∀i,i<n->(l.getD j 0).testBit (m+i)=true
 | [],j0,h,j,hj,_,i,hi=>absurd hj z6
 |b::l,j0,h,j,hj,hm,i,hi=>by
  simp only[UT,aSe,aTy]at h;cases j with
  |zero=>
   rcases h.1 with h1|h1
   ·have:j0<m+n:=by simpa[Nat.blt_eq]using h1
    omega
   ·have h2:(b/2^m)%2^n=2^n-1:=by simpa using h1
    have h3:=congrArg (λz=>Nat.testBit z i) h2;simp only[Nat.testBit_mod_two_pow,Nat.testBit_two_pow_sub_one,hi,decide_true,Bool.true_and,Nat.testBit_div_two_pow]at h3;rw[List.getD_cons_zero,Nat.add_comm];exact h3
  |succ j=>
   rw[List.getD_cons_succ];exact vY l (j0+1) h.2 j (by simpa using hj) z8 i hi
theorem xF(l:List Oper):(cL l).length=l.length:=(oU l _ l [] rfl z6).1
theorem gJ{m:Nat}(n:Nat){bm:List Nat}(hok:mP P ops.toList=true)(hn:decide (m+n<=ops.size)=true)(hbm:cL ops.toList=bm)(hbar:UT m n 0 bm=true)
  (h:iI P N ops (λ_=>kB P N nb ops Q (m+n)) m ((ops.toList.drop m).take n) [] T H):kB P N nb ops Q m T H:=by
 unfold mP at hok;simp only[aSe]at hok;refine NQ hok.1.2 hok.2 (of_decide_eq_true hn) ?_ (DY _ _ _ _ _ h);rw[hbm,aTr];intro j hj;have hlen:bm.length=ops.size:=by rw[<-hbm,xF];simp
 rcases aSk j (m+n)with h|h
 ·rw[decide_eq_true h];rfl
 ·rw[decide_eq_false (by omega:¬j<m+n),Bool.false_or,aTr];intro i hi;exact vY bm 0 hbar j (by rw[hlen];exact aT0.1 hj) z8 i (aT0.1 hi)
theorem kK{k:Nat}{o:Oper}{bm:List Nat}(hok:mP P ops.toList=true)(ho:ops.toList[k]? =some o)(hbm:cL ops.toList=bm)(hbar:UT k 1 0 bm=true)
  (h:bH P N nb ops (aW (kB P N nb ops Q (k+1)) Q) [o] T H):kB P N nb ops Q k T H:=by
 unfold mP at hok;simp only[aSe]at hok;refine aFy hok.1.2 ho ?_ h;rw[hbm,aTr];intro j hj;have hlen:bm.length=ops.size:=by rw[<-hbm,xF];simp
 rcases aSk k j with h|h
 ·rw[decide_eq_false (by omega:¬j<=k),Bool.false_or];exact vY bm 0 hbar j (by rw[hlen];exact aT0.1 hj) z8 0 z8
 ·rw[decide_eq_true h];rfl
theorem kB.weak{k:Nat}{T2:aD}(h:kB P N nb ops Q k T2 H)(hw:∀i,T2 i= .junk\/T2 i=T i):kB P N nb ops Q k T H:=
 λE0 fuel t listed E a hsz hcnt hl hle ho hH ht=>h E0 fuel t listed E a hsz hcnt hl hle ho hH (oX ht hw)
theorem JL.mono{nx nx':aD->aC->Prop}(hn:∀T H,nx T H->nx' T H):∀(l:List Oper) (k:Nat) (prev:fD) (T:aD) (H:aC),JL P N ops nx k l prev T H->JL P N ops nx' k l prev T H
 | [],_,_,_,_,h=>hn _ _ h
 |o::l,k,prev,T,H,⟨v,eff,rd,h1,h2,h3,h4⟩=>⟨v,eff,rd,h1,h2,h3,JL.mono hn l _ _ _ _ h4⟩
theorem gM{m:Nat}(n:Nat){bm:List Nat}(hok:mP P ops.toList=true)(hn:decide (m+n<=ops.size)=true)(hbm:cL ops.toList=bm)(hbar:UT m n 0 bm=true)
  (h:DP P N ops (λ_=>kB P N nb ops Q (m+n)) m ((ops.toList.drop m).take n) (eZ (.tup []) T DS) H):kB P N nb ops Q m T H:=by
 have hok':=hok;unfold mP at hok';simp only[aSe]at hok';refine NQ hok'.1.2 hok'.2 (of_decide_eq_true hn) ?_ ?_
 ·rw[hbm,aTr];intro j hj;have hlen:bm.length=ops.size:=by rw[<-hbm,xF];simp
  rcases aSk j (m+n)with h|h
  ·rw[decide_eq_true h];rfl
  ·rw[decide_eq_false (by omega:¬j<m+n),Bool.false_or,aTr];intro i hi;exact vY bm 0 hbar j (by rw[hlen];exact aT0.1 hj) z8 i (aT0.1 hi)
 ·refine JL.mono ?_ _ _ _ _ _ (DY _ _ _ _ _ (h [] (by intro p hp;cases hp)));rintro T1 H1 ⟨T2,h1,h2⟩;exact h2.weak h1
end
section
variable{P:Program}{N nb:Nat}{ops:Array Oper}{Q:dG}
theorem nR{o:Oper}{l:List Oper}{T:aD}{H:aC}{t:TypeId}{x y:Operand}{ei:TypeId×TI}{id n c:Nat}{kk:IntKind}{k:Nat}(hw:aU ops.toList T N o=some true)
  (hop:o.op= .slice t x none (some y) none) (okx:aQ N x=true) (oky:aQ N y=true) (hte:dH P t=some ei) (hx:bT T x= .msl id 0 n c) (hy:bT T y= .int kk k) (hk:k<=c)
  (h:bH P N nb ops Q l (bU T o.dst (.msl id 0 k c)) H):bH P N nb ops Q (o::l) T H:=by
 refine fW hw (λE a ho hH ht=> ?_) h;obtain⟨e,i⟩:=ei;obtain⟨hu,hti⟩:=dE hte;obtain⟨d,f,h3,h4,rfl⟩:=cA hti;have hvx:=aM ht x okx;have hvy:=aM ht y oky;rw[hx]at hvx;rw[hy]at hvy;have vy:=hvy.int_inv;obtain⟨vx,hcm,hbn⟩:a.eval x= .slice (some ⟨E.ρ id,0,none⟩) n c/\c<=maxLen/\E.view.born id:=by
  generalize a.eval x=w at hvx;cases hvx with
  |msl _ _ _ _ hbn hm=>exact⟨rfl,hm,hbn⟩
 refine⟨E, .slice (some ⟨E.ρ id,0,none⟩) k c, .inl ?_, .refl E,ho,hH, .msl id 0 k c hbn hcm⟩;have hb:(Instr.sliceBound (.int kk (k:Int)) c .sliceAcap).run P E.w= .ok k E.w:=by
  have hb0:(0:Int)<=(k:Int)/\(k:Int)<=c:=⟨z8,z8⟩;simp only[Instr.sliceBound,asIntOf,aS4,aS7,aS5,if_pos hb0,Sem.run_ite,tN]
 unfold execOp;rw[hop];have e1:(if c=0 then(some (⟨E.ρ id,0,none⟩:Addr))else Option.map (λz:Addr=>z.add (0*f.size)) (some ⟨E.ρ id,0,none⟩))=some ⟨E.ρ id,0,none⟩:=by
  split
  ·rfl
  ·simp[Nat.zero_mul,vS]
 simp only[aS4,Instr.sliceAt,aS hu,aS5,Instr.slice,Instr.sliceBounds,aTl,aS1,aTm,aTc,if_false,vx,vy,if_true,hb,aS7,dK h4,Nat.sub_zero];rw[show(if c=0 then(some (⟨E.ρ id,0,none⟩:Addr))else some ((⟨E.ρ id,0,none⟩:Addr).add (0*f.size)))=some ⟨E.ρ id,0,none⟩from e1]
theorem eC{c:Code}{T:aD}{H:aC}{σ:Type}(rep:σ->List (Nat×PV))(I:σ->aC->Prop)(m:σ->Nat)(s0:σ)(hT:rL T (rep s0))(hI:I s0 H)
  (round:∀s H,I s H->eA P N nb c (aW (λT' H'=>∃s',m s'<m s/\rL T' (rep s')/\I s' H') Q) (uD (rep s)) H):eA P N nb (.loop c) Q T H:=by
 intro E a ho hE ht
 let J:Nat->Act->World->Prop:=λn a w=>∃E' s,E'.w=w/\E.leN nb E'/\E'.Ok/\n=m s/\eR E'.view N a (uD (rep s))/\I s E'.H
 refine wp_loop (λa w=>∃n,J n a w) (λa w=>BN (λn=>J n a w)) ⟨m s0,E,s0,rfl, .refl nb E,ho,rfl,oX ht (sI hT),hE▸hI⟩ ?_;intro a1 w1 hJ;obtain⟨E1,s,hw1,hle,ho1,hms,ht1,hI1⟩:=tG hJ;have hr:=round s E1.H hI1 E1 a1 ho1 rfl ht1;rw[hw1]at hr;refine wp_mono hr ?_;intro e a' w' hl;obtain⟨E',T',rfl,h2,h3,h4,h5⟩:=hl;cases e with
 |normal=>
  obtain⟨s',hlt,hf,hI'⟩:=h5;have hJ':J (m s') a' E'.w:=⟨E',s',rfl,hle.trans h2,h3,rfl,oX h4 (sI hf),hI'⟩;exact⟨⟨m s',hJ'⟩,Nat.lt_of_le_of_lt (yP hJ') (by rw[hms];exact hlt)⟩
 |_=>exact⟨E',T',rfl,hle.trans h2,h3,h4,h5⟩
end
structure vU where
 kind:Int
 kids:List St
structure PS where
 pos:Nat
 stack:List vU
 flag:Bool
def iB:Nat:=1099511627776
inductive oA(H:aC):PV->List St->List Nat->Prop
 |nil:oA H (.slice [] .full) [] []
 |msl {ic c:Nat} {kids:List St} {rest:List PV} (hH:H[ic]? =some (.row (aH (kids.map St.enc)++rest))) (hc:kids.length*3+rest.length=c*3) (hm:c<=maxLen):oA H (.msl ic 0 kids.length c) kids [ic]
inductive mN(H:aC):List vU->List PV->List Nat->Prop
 |nil:mN H [] [] []
 |cons {f:vU} {fs:List vU} {cells:List PV} {ids cid:List Nat} {cv:PV} (h:mN H fs cells ids) (hc:oA H cv f.kids cid) (hd:∀i∈cid,i∉ids):mN H (f::fs) (cells++ [.int .i64 f.kind, .str [],cv]) (cid++ids)
def eJ(toks:List Tk)(ip:Nat)(s:PS)(F:List Nat)(H:aC):Prop:=
 ∃(is c:Nat) (cells rest:List PV) (ids:List Nat),H[ip]? =some (.row [.slice (toks.map Tk.enc) .none, .int .i64 (s.pos:Nat), .msl is 0 s.stack.length c])/\H[is]? =some (.row (cells++rest))/\
  (cells++rest).length=c*3/\c<=maxLen/\mN H s.stack cells ids/\F=ip::is::ids/\ip≠is/\ip∉ids/\is∉ids/\s.pos<=toks.length/\toks.length<=iB
structure Fr(F F':List Nat)(H H':aC):Prop where
 len:H.length<=H'.length
 same:∀id,id<H.length->id∉F->H'[id]? =H[id]?
 ids:∀id∈F',id<H.length->id∈F
theorem Fr.refl(F:List Nat)(H:aC):Fr F F H H:=⟨aSl _,λ_ _ _=>rfl,λ_ h _=>h⟩
theorem Fr.trans{F F1 F2:List Nat}{H H1 H2:aC}(a:Fr F F1 H H1)(b:Fr F1 F2 H1 H2):Fr F F2 H H2:=
 ⟨aSm a.len b.len,λid h1 h2=>(b.same id (aSn h1 a.len) (λh=>h2 (a.ids id h h1))).trans (a.same id h1 h2),λid h1 h2=>a.ids id (b.ids id h1 (aSn h2 a.len)) h2⟩
theorem Fr.app{F F':List Nat}{H H':aC}(a:Fr F F' H H')(L:aC):Fr F F' H (H'++L):=
 ⟨by rw[aTi];exact aSm a.len (Nat.le_add_right _ _),λid h1 h2=>by rw[aSv (aSn h1 a.len)];exact a.same id h1 h2,a.ids⟩
theorem Fr.of_app{F F':List Nat}{H H' L:aC}(a:Fr F F' (H++L) H'):Fr F F' H H':=
 ⟨by have:=a.len;rw[aTi]at this;omega,λid h1 h2=>by rw[a.same id (by rw[aTi];omega) h2,aSv h1],λid h1 h2=>a.ids id h1 (by rw[aTi];omega)⟩
theorem Fr.step{F F1 F2:List Nat}{H H1 H2 L:aC}(a:Fr F F1 H H1)(b:Fr F1 F2 (H1++L) H2):Fr F F2 H H2:=a.trans b.of_app
theorem Fr.get{F F':List Nat}{H H':aC}(a:Fr F F' H H'){id:Nat}{o:AObj}(h:H[id]? =some o)(hn:id∉F):H'[id]? =some o/\id∉F':=
 ⟨by rw[a.same id (lG h) hn];exact h,λh'=>hn (a.ids id h' (lG h))⟩
theorem oA.fr{H H':aC}{cv:PV}{kids:List St}{cid:List Nat}(h:oA H cv kids cid)(he:∀i∈cid,H'[i]? =H[i]?):oA H' cv kids cid:=by
 cases h with
 |nil=>exact .nil
 |msl hH hc hm=>exact .msl (by rw[he _ z6];exact hH) hc hm
theorem oA.lt{H:aC}{cv:PV}{kids:List St}{cid:List Nat}(h:oA H cv kids cid):∀i∈cid,i<H.length:=by
 cases h with
 |nil=>intro i hi;cases hi
 |msl hH hc hm=>intro i hi;rw[aT2]at hi;subst hi;exact lG hH
theorem mN.fr{H H':aC}{fs:List vU}{cells:List PV}{ids:List Nat}(h:mN H fs cells ids):(∀i∈ids,H'[i]? =H[i]?)->mN H' fs cells ids:=by
 induction h with
 |nil=>exact λ_=>.nil
 |cons h hc hd ih=>exact λhe=>.cons (ih λi hi=>he i (by simp[hi])) (hc.fr λi hi=>he i (by simp[hi])) hd
theorem mN.lt{H:aC}{fs:List vU}{cells:List PV}{ids:List Nat}(h:mN H fs cells ids):∀i∈ids,i<H.length:=by
 induction h with
 |nil=>intro i hi;cases hi
 |cons h hc hd ih=>intro i hi;exact(aTs.1 hi).elim (hc.lt i) (ih i)
theorem mN.len{H:aC}{fs:List vU}{cells:List PV}{ids:List Nat}(h:mN H fs cells ids):cells.length=fs.length*3:=by
 induction h with
 |nil=>rfl
 |cons h hc hd ih=>simp[ih];omega
section
variable{toks:List Tk}{ip:Nat}{s:PS}{F:List Nat}{H:aC}
theorem eJ.fr{H':aC}(h:eJ toks ip s F H)(he:∀i∈F,H'[i]? =H[i]?):eJ toks ip s F H':=by
 obtain⟨is,c,cells,rest,ids,h1,h2,h3,h4,h5,rfl,h7⟩:=h;exact⟨is,c,cells,rest,ids,by rw[he _ z6];exact h1,by rw[he _ z6];exact h2,h3,h4,h5.fr λi hi=>he i (by simp[hi]),rfl,h7⟩
theorem eJ.lt(h:eJ toks ip s F H):∀i∈F,i<H.length:=by
 obtain⟨is,c,cells,rest,ids,h1,h2,h3,h4,h5,rfl,h7⟩:=h;intro i hi;rcases aTv.1 hi with rfl|hi
 ·exact lG h1
 rcases aTv.1 hi with rfl|hi
 ·exact lG h2
 ·exact h5.lt i hi
theorem eJ.app(h:eJ toks ip s F H)(L:aC):eJ toks ip s F (H++L):=h.fr λi hi=>aSv (h.lt i hi)
theorem eJ.row(h:eJ toks ip s F H):∃st,H[ip]? =some (.row [.slice (toks.map Tk.enc) .none, .int .i64 (s.pos:Nat),st]):=by
 obtain⟨is,c,cells,rest,ids,h1,h2,h3,h4,h5,rfl,h7⟩:=h;exact⟨_,h1⟩
theorem eJ.pos(h:eJ toks ip s F H):s.pos<=toks.length:=by
 obtain⟨is,c,cells,rest,ids,h1,h2,h3,h4,h5,h6,h7,h8,h9,h10,h11⟩:=h;exact h10
theorem eJ.len(h:eJ toks ip s F H):toks.length<=iB:=by
 obtain⟨is,c,cells,rest,ids,h1,h2,h3,h4,h5,h6,h7,h8,h9,h10,h11⟩:=h;exact h11
theorem eJ.mem(h:eJ toks ip s F H):ip∈F:=by
 obtain⟨is,c,cells,rest,ids,h1,h2,h3,h4,h5,rfl,h7⟩:=h;simp
theorem eJ.flg(h:eJ toks ip s F H)(b:Bool):eJ toks ip {s with flag:=b} F H:=h
theorem eJ.lt_ip(h:eJ toks ip s F H):ip<H.length:=h.lt _ h.mem
theorem eJ.new(h:eJ toks ip s F H)(k:Nat):H.length+k∉F:=λhi=>by have:=h.lt _ hi;omega
theorem eJ.new0(h:eJ toks ip s F H):H.length∉F:=λhi=>by have:=h.lt _ hi;omega
end
def qQ(t:St)(s:PS):Option PS:=match s.stack with
 | []=>none
 |f::fs=>if f.kids.length<iB then some {s with stack:=⟨f.kind,f.kids++ [t]⟩::fs}else none
def KD(toks:List Tk)(s:PS):Option PS:=match toks[s.pos]? with
 |none=>none
 |some t=>(qQ ⟨t.kind,t.text,[]⟩ s).map λs=> {s with pos:=s.pos+1}
def wU(toks:List Tk):Nat->PS->Option PS
 |0,s=>some s
 |n+1,s=>match toks[s.pos]? with
  |none=>some s
  |some t=>if BE t.kind=true then(KD toks s).bind (wU toks n)else some s
def BG(toks:List Tk)(s:PS):Option PS:=wU toks (toks.length-s.pos) s
def cJ(toks:List Tk)(s:PS):Option PS:=(BG toks s).bind λs=>if s.pos<toks.length then KD toks s else some s
def oH(k:Int)(s:PS):Option PS:=qQ ⟨k,[],[]⟩ s
abbrev PZ(toks:List Tk)(s:PS)(xs:List (List UInt8)):Bool:=eI (aG toks s.pos) xs
def cH(toks:List Tk)(xs:List (List UInt8))(s:PS):Option PS:=if PZ toks s xs=true then cJ toks s else some s
def bP(toks:List Tk)(x:List UInt8)(s:PS):Option PS:=(cH toks [x] s).bind λs1=>if PZ toks s [x]=true then some s1 else oH 108 s1
abbrev aAs(toks:List Tk)(s:PS):Bool:=decide ((aG toks s.pos).kind=103)
abbrev JW(toks:List Tk)(s:PS):Bool:=decide ((aG toks s.pos).kind=100)
def bK(toks:List Tk)(s:PS):Option PS:=if aAs toks s=true then cJ toks s else oH 108 s
def SY(k:Int)(s:PS):Option PS:=if s.stack.length<iB then some {s with stack:=⟨k,[]⟩::s.stack}else none
def qY(s:PS):Option PS:=match s.stack with
 |f::g::fs=>qQ ⟨f.kind,[],f.kids⟩ {s with stack:=g::fs}
 |_=>none
def cF(k:Int)(a:PS->Option PS)(s:PS):Option PS:=((SY k s).bind a).bind qY
def sG(k:Int)(s:PS):Option PS:=match s.stack with
 | []=>none
 |f::fs=>if s.stack.length<iB then match f.kids.getLast? with
   |none=>none
   |some x=>some {s with stack:=⟨k,[x]⟩::⟨f.kind,f.kids.dropLast⟩::fs}
  else none
def iP(k:Int)(a:PS->Option PS)(s:PS):Option PS:=((sG k s).bind a).bind qY
def FC(P:Program)(toks:List Tk)(ip:Nat)(f:FuncId)(args:List PV)(m:PS->Option PS)(rv:PS->PS->PV)(I:PS->List Nat->aC->Prop):Prop:=
 ∀(s s':PS) (F:List Nat) (H:aC),m s=some s'->eJ toks ip s F H->I s F H->aN P f args H λr H'=>r=rv s s'/\∃F',eJ toks ip s' F' H'/\Fr F F' H H'/\I s' F' H'
def Stb(I:PS->List Nat->aC->Prop):Prop:=∀s s' F F' H H',s'.flag=s.flag->I s F H->Fr F F' H H'->I s' F' H'
def I0:PS->List Nat->aC->Prop:=λ_ _ _=>True
theorem aPa:Stb I0:=λ_ _ _ _ _ _ _ _ _=>trivial
theorem Fr.stX{F F1 F2:List Nat}{H H1 H1' H2:aC}(a:Fr F F1 H H1)(b:Fr F1 F2 H1' H2)(hL:∃L,H1'=H1++L:=by first|exact⟨[],(aT4 _).symm⟩|exact⟨_,rfl⟩):Fr F F2 H H2:=by obtain⟨L,rfl⟩:=hL;exact a.step b
theorem Fr.gtX{F F':List Nat}{H H' H1:aC}{id:Nat}{o:AObj}(a:Fr F F' H' H1)(h:H[id]? =some o)(hn:id∉F)(hL:∃L,H'=H++L:=by first|exact⟨[],(aT4 _).symm⟩|exact⟨_,rfl⟩):H1[id]? =some o/\id∉F':=by
 obtain⟨L,rfl⟩:=hL;exact a.get (by rw[aSv (lG h)];exact h) hn
theorem mB{H H1:aC}{id:Nat}{o:AObj}(h:H1[id]? =some o)(hL:∃L,H=H1++L:=by first|exact⟨[],(aT4 _).symm⟩|exact⟨_,rfl⟩):H[id]? =some o:=by obtain⟨L,rfl⟩:=hL;rw[aSv (lG h)];exact h
theorem bJ{toks:List Tk}{ip:Nat}{s':PS}{F0 F:List Nat}{H0 H1 H':aC}{α:Type}{u v:α}(p:eJ toks ip s' F H1)(f:Fr F0 F H0 H1)(hr:u=v:=by rfl)(hL:∃L,H'=H1++L:=by first|exact⟨[],(aT4 _).symm⟩|exact⟨_,rfl⟩):u=v/\∃F',eJ toks ip s' F' H'/\Fr F0 F' H0 H':=by
 obtain⟨L,rfl⟩:=hL;exact⟨hr,F,p.app L,f.app L⟩
theorem dL{A:Prop}{o:Option PV}{r:PV}{R:PV->Prop}(h:R r)(ha:A:=by first|exact .inl rfl|exact .inl trivial|trivial)(hr:o=some r:=by rfl):A/\∃r,o=some r/\R r:=⟨ha,r,hr,h⟩
theorem kH{toks:List Tk}{ip:Nat}{s:PS}{F F1 F2:List Nat}{H H1 H1' H2:aC}{i0:Nat}{o0:AObj}(f:Fr F F1 H H1)(p:eJ toks ip s F2 H2)(g:Fr F1 F2 H1' H2)(k0:H1[i0]? =some o0)(n0:i0∉F1)(hL:∃L,H1'=H1++L:=by first|exact⟨[],(aT4 _).symm⟩|exact⟨_,rfl⟩):Fr F F2 H H2/\(∃st,H2[ip]? =some (.row [.slice (toks.map Tk.enc) .none, .int .i64 (s.pos:Nat),st]))/\(H2[i0]? =some o0/\i0∉F2):=by
 obtain⟨L,rfl⟩:=hL;exact⟨f.step g,p.row,g.gtX k0 n0⟩
theorem iN{toks:List Tk}{ip:Nat}{s:PS}{F F1 F2:List Nat}{H H1 H1' H2:aC}{i0 i1:Nat}{o0 o1:AObj}(f:Fr F F1 H H1)(p:eJ toks ip s F2 H2)(g:Fr F1 F2 H1' H2)(k0:H1[i0]? =some o0)(n0:i0∉F1)(k1:H1[i1]? =some o1)(n1:i1∉F1)(hL:∃L,H1'=H1++L:=by first|exact⟨[],(aT4 _).symm⟩|exact⟨_,rfl⟩):Fr F F2 H H2/\(∃st,H2[ip]? =some (.row [.slice (toks.map Tk.enc) .none, .int .i64 (s.pos:Nat),st]))/\(H2[i0]? =some o0/\i0∉F2)/\(H2[i1]? =some o1/\i1∉F2):=by
 obtain⟨L,rfl⟩:=hL;exact⟨f.step g,p.row,g.gtX k0 n0,g.gtX k1 n1⟩
theorem KV{toks:List Tk}{ip:Nat}{s:PS}{F F1 F2:List Nat}{H H1 H1' H2:aC}{i0 i1 i2:Nat}{o0 o1 o2:AObj}(f:Fr F F1 H H1)(p:eJ toks ip s F2 H2)(g:Fr F1 F2 H1' H2)(k0:H1[i0]? =some o0)(n0:i0∉F1)(k1:H1[i1]? =some o1)(n1:i1∉F1)(k2:H1[i2]? =some o2)(n2:i2∉F1)(hL:∃L,H1'=H1++L:=by first|exact⟨[],(aT4 _).symm⟩|exact⟨_,rfl⟩):Fr F F2 H H2/\(∃st,H2[ip]? =some (.row [.slice (toks.map Tk.enc) .none, .int .i64 (s.pos:Nat),st]))/\(H2[i0]? =some o0/\i0∉F2)/\(H2[i1]? =some o1/\i1∉F2)/\(H2[i2]? =some o2/\i2∉F2):=by
 obtain⟨L,rfl⟩:=hL;exact⟨f.step g,p.row,g.gtX k0 n0,g.gtX k1 n1,g.gtX k2 n2⟩
section
variable{i0 i1 i2 i3:Nat}{o0 o1 o2 o3:AObj}{H0 H1 H2 H3:aC}
theorem w1(k0:H0[i0]? =some o0):H0[i0]? =some o0/\(∀L,(H0++L)[i0]? =some o0):=⟨k0,λL=>by rw[aSv (lG k0)];exact k0⟩
theorem w2(k0:H0[i0]? =some o0)(k1:H1[i1]? =some o1):H0[i0]? =some o0/\(∀L,(H0++L)[i0]? =some o0)/\H1[i1]? =some o1/\(∀L,(H1++L)[i1]? =some o1):=⟨k0,λL=>by rw[aSv (lG k0)];exact k0,k1,λL=>by rw[aSv (lG k1)];exact k1⟩
theorem w3(k0:H0[i0]? =some o0)(k1:H1[i1]? =some o1)(k2:H2[i2]? =some o2):H0[i0]? =some o0/\(∀L,(H0++L)[i0]? =some o0)/\H1[i1]? =some o1/\(∀L,(H1++L)[i1]? =some o1)/\H2[i2]? =some o2/\(∀L,(H2++L)[i2]? =some o2):=⟨k0,λL=>by rw[aSv (lG k0)];exact k0,k1,λL=>by rw[aSv (lG k1)];exact k1,k2,λL=>by rw[aSv (lG k2)];exact k2⟩
theorem w4(k0:H0[i0]? =some o0)(k1:H1[i1]? =some o1)(k2:H2[i2]? =some o2)(k3:H3[i3]? =some o3):H0[i0]? =some o0/\(∀L,(H0++L)[i0]? =some o0)/\H1[i1]? =some o1/\(∀L,(H1++L)[i1]? =some o1)/\H2[i2]? =some o2/\(∀L,(H2++L)[i2]? =some o2)/\H3[i3]? =some o3/\(∀L,(H3++L)[i3]? =some o3):=⟨k0,λL=>by rw[aSv (lG k0)];exact k0,k1,λL=>by rw[aSv (lG k1)];exact k1,k2,λL=>by rw[aSv (lG k2)];exact k2,k3,λL=>by rw[aSv (lG k3)];exact k3⟩
end
theorem cG(kids:List St):(aH (kids.map St.enc)).length=kids.length*3:=by
 rw[bQ (sz:=3) _ (λe he=>by obtain⟨v,_,rfl⟩:=aTq.1 he;exact v.enc_len),aSr]
theorem uL(kids:List St)(t:St):aH ((kids++ [t]).map St.enc)=aH (kids.map St.enc)++ [.int .i64 t.kind, .str t.text, .slice (t.ch.map St.enc) .none]:=by
 rw[List.map_append,cN];simp[aH,St.enc_cells]
theorem zV{A rest:List PV}{m:Nat}{x y z a b c:PV}(hA:A.length=m):(((A++x::y::z::rest).set m a).set (m+1) b).set (m+2) c=A++ [a,b,c]++rest:=by
 subst hA;rw[aTw _ _ (aSl _),Nat.sub_self,aTw _ _ z8,aTw _ _ z8];simp[show A.length+1-A.length=1 by omega,show A.length+2-A.length=2 by omega]
theorem oA.cases3{H:aC}{cv:PV}{kids:List St}{cid:List Nat}(h:oA H cv kids cid):
  (cv= .slice (kids.map St.enc) .full/\cid= [])\/(∃ic,cid= [ic]/\cv= .msl ic 0 kids.length kids.length/\H[ic]? =some (.row (aH (kids.map St.enc))))\/
  ∃ic c x y z rest,cid= [ic]/\cv= .msl ic 0 kids.length c/\H[ic]? =some (.row (aH (kids.map St.enc)++x::y::z::rest))/\kids.length+1<=c/\(kids.length+1)*3+rest.length=c*3/\c<=maxLen:=by
 cases h with
 |nil=>exact .inl ⟨rfl,rfl⟩
 | @msl ic c kids rest hH hc hm=>
  rcases aSk kids.length c with hlt|hge
  ·match rest,hc,hH with
   | [],hc,_=>simp at hc;omega
   | [x],hc,_=>simp at hc;omega
   | [x,y],hc,_=>simp at hc;omega
   |x::y::z::rest,hc,hH=>exact .inr (.inr ⟨ic,c,x,y,z,rest,rfl,rfl,hH,hlt,by simp at hc;omega,hm⟩)
  ·have hr:rest= []:=aTx.1 z8;subst hr;have:c=kids.length:=by simp at hc;omega
   subst this;exact .inr (.inl ⟨ic,rfl,rfl,by simpa using hH⟩)
theorem PT{P:Program}{E:aE}{v:Value}{es:List PV}{sz n:Nat}(hn:es.length=n)(hes:∀e∈es,e.cells.length=sz)(hv:aL E.view v (.slice es .full)):∃ad,v= .slice ad n n/\∃arrs,(Builtin.firstCells sz n (.slice ad n n)).run P E.w= .ok arrs E.w/\RL E.view arrs (aH es):=by
 obtain⟨arrs,r1,r2,ad,cap,rfl,hc1,hc2,hc3⟩:=mX (P:=P) hv hes;subst hn;have:cap=es.length:=hc3;subst this;exact⟨ad,rfl,arrs,r1,r2⟩
section
variable{H L:aC}{i j k:Nat}{o o':AObj}
theorem ap1(h:i<H.length):(H.set i o++L)[i]? =some o:=by rw[aSv (by simpa using h),aSz h]
theorem RX(h:j<H.length)(hne:j≠i):(H.set i o++L)[j]? =H[j]? :=by rw[aSv (by simpa using h),aS0 (Ne.symm hne)]
theorem ap3:(H.set i o++L)[H.length+k]? =L[k]? :=by rw[aSw z6,lS,Nat.add_sub_cancel_left]
theorem ap4(h:i<H.length):(H.set i o++L).set i o'=H.set i o'++L:=by rw[List.set_append_left _ _ (by simpa using h),aUe]
theorem ap5(h:j<H.length):(H.set i o++L).set j o'=(H.set i o).set j o'++L:=List.set_append_left _ _ (by simpa using h)
theorem XT(h:i<H.length):(H++L).set i o=H.set i o++L:=List.set_append_left _ _ h
theorem ap7(h:j<H.length)(h':i<H.length)(hne:j≠i):((H.set i o).set j o'++L)[i]? =some o:=by rw[aSv (by simpa using h'),aS0 hne,aSz h']
theorem ap8(h:j<H.length):((H.set i o).set j o'++L)[j]? =some o':=by rw[aSv (by simpa using h),aSz (by simpa using h)]
theorem aRd:((H.set i o).set j o'++L)[H.length+k]? =L[k]? :=by rw[aSw z6,lS,lS,Nat.add_sub_cancel_left]
theorem ap9(h:k<H.length)(h1:k≠i)(h2:k≠j):((H.set i o).set j o'++L)[k]? =H[k]? :=by rw[aSv (by simpa using h),aS0 (Ne.symm h2),aS0 (Ne.symm h1)]
end
theorem oA.of{H:aC}{ic c n:Nat}{kids:List St}{rest:List PV}(hn:kids.length=n)(hH:H[ic]? =some (.row (aH (kids.map St.enc)++rest)))(hc:n*3+rest.length=c*3)(hm:c<=maxLen):oA H (.msl ic 0 n c) kids [ic]:=by
 subst hn;exact .msl hH hc hm
theorem LF{toks:List Tk}{ip is c pos:Nat}{fl:Bool}{kind:Int}{kids':List St}{fs:List vU}{cells0 rest R:List PV}{cv cv':PV}{ids0 cid cid':List Nat}{H H3:aC}
  (h1:H[ip]? =some (.row [.slice (toks.map Tk.enc) .none, .int .i64 (pos:Nat), .msl is 0 (fs.length+1) c])) (hR:cells0++ [PV.int .i64 kind, .str [],cv]++rest=R) (h3:R.length=c*3) (h4:c<=maxLen)
  (k1:mN H fs cells0 ids0) (k3:∀i∈cid,i∉ids0) (hne:ip≠is) (hi1:ip∉cid++ids0) (hi2:is∉cid++ids0) (his:is<H.length) (hpos:pos<=toks.length) (hlim:toks.length<=iB)
  (hl:H.length<=H3.length) (e2:H3[is]? =some (.row (R.set (fs.length*3+2) cv'))) (same:∀j,j<H.length->j≠is->j∉cid->H3[j]? =H[j]?)
  (hc:oA H3 cv' kids' cid') (hcid:∀i∈cid',i∈cid\/H.length<=i):
  eJ toks ip ⟨pos,⟨kind,kids'⟩::fs,fl⟩ (ip::is::(cid'++ids0)) H3/\Fr (ip::is::(cid++ids0)) (ip::is::(cid'++ids0)) H H3:=by
 have hlc:=k1.len;rw[aTs,not_or]at hi1 hi2;have hipl:=lG h1;have hnew:∀i∈cid',i≠ip/\i≠is/\i∉ids0:=by
  intro i hi;rcases hcid i hi with h|h
  ·exact⟨λe=>hi1.1 (e▸h),λe=>hi2.1 (e▸h),k3 i h⟩
  ·exact⟨λe=>z8,λe=>z8,λh'=>by have:=k1.lt i h';omega⟩
 refine⟨⟨is,c,cells0++ [.int .i64 kind, .str [],cv'],rest,cid'++ids0, ?_, ?_, ?_,h4, .cons (k1.fr λi hi=> ?_) hc (λi hi=>(hnew i hi).2.2),rfl,hne, ?_, ?_,hpos,hlim⟩,hl, ?_, ?_⟩
 ·rw[same ip hipl hne hi1.1];exact h1
 ·rw[e2,<-hR,<-hlc];congr 2;rw[aUa,aTw _ _ z8];simp[show cells0.length+2-cells0.length=2 by omega]
 ·rw[<-hR]at h3;simpa using h3
 ·exact same i (k1.lt i hi) (λe=>hi2.2 (e▸hi)) (λh=>k3 i h hi)
 ·rw[aTs,not_or];exact⟨λh=>(hnew _ h).1 rfl,hi1.2⟩
 ·rw[aTs,not_or];exact⟨λh=>(hnew _ h).2.1 rfl,hi2.2⟩
 ·intro j hj hn;simp only[aTv,aTs,not_or]at hn;exact same j hj hn.2.1 hn.2.2.1
 ·intro j hj hjl;simp only[aTv,aTs]at hj⊢;rcases hj with rfl|rfl|hj|hj
  ·exact .inl rfl
  ·exact .inr (.inl rfl)
  ·rcases hcid j hj with h|h
   ·exact .inr (.inr (.inl h))
   ·omega
  ·exact .inr (.inr (.inr hj))
theorem KF{toks:List Tk}{ip is c pos:Nat}{fl:Bool}{kind:Int}{kids':List St}{fs:List vU}{cells0 rest R:List PV}{cv cv':PV}{ids0 cid cid':List Nat}{H H3:aC}
  (h1:H[ip]? =some (.row [.slice (toks.map Tk.enc) .none, .int .i64 (pos:Nat), .msl is 0 (fs.length+1) c])) (hR:cells0++ [PV.int .i64 kind, .str [],cv]++rest=R) (h3:R.length=c*3) (h4:c<=maxLen)
  (k1:mN H fs cells0 ids0) (k3:∀i∈cid,i∉ids0) (hne:ip≠is) (hi1:ip∉cid++ids0) (hi2:is∉cid++ids0) (his:is<H.length) (hpos:pos<=toks.length) (hlim:toks.length<=iB)
  (hl:H.length<=H3.length) (e2:H3[is]? =some (.row (R.set (fs.length*3+2) cv'))) (same:∀j,j<H.length->j≠is->j∉cid->H3[j]? =H[j]?)
  (hc:oA H3 cv' kids' cid') (hcid:∀i∈cid',i∈cid\/H.length<=i):
  ∃F',eJ toks ip ⟨pos,⟨kind,kids'⟩::fs,fl⟩ F' H3/\Fr (ip::is::(cid++ids0)) F' H H3:=
 ⟨_,LF h1 hR h3 h4 k1 k3 hne hi1 hi2 his hpos hlim hl e2 same hc hcid⟩
theorem fS:PV.fits ⟨true,3,48⟩ (aT (Value.agg #[Value.int IntKind.i64 0,Value.string {data:= #[]},Value.slice none 0 0]))=true:=by kernel_rfl
theorem fR:(aT (Value.agg #[Value.int IntKind.i64 0,Value.string {data:= #[]},Value.slice none 0 0])).drop1= .agg [.int .i64 0, .str [], .slice [] .none]:=by rfl
theorem aGi{toks:List Tk}{ip nb:Nat}{s s':PS}{F:List Nat}{H:aC}{t:St}(hm:qQ t s=some s')(hp:eJ toks ip s F H):
  ∃c,Tryz.f166.body=some c/\eA Tryz.prog 27 nb c (λe T H'=>(e= .normal\/e= .ret)/\∃r,fP Tryz.prog 27 T H' Tryz.f166.results.toList=some r/\r= .tup []/\∃F',eJ toks ip s' F' H'/\Fr F F' H H') (uD [(0, .optr ip 0),(1,t.enc)]) H:=by
 refine⟨_,rfl, ?_⟩;obtain⟨is,c,cells,rest,ids,h1,h2,h3,h4,h5,rfl,hne,hi1,hi2,hpos,hlim⟩:=hp;obtain⟨pos,stack,fl⟩:=s;simp only at h1 h5 hpos;cases h5 with
 |nil=>cases hm
 | @cons f fs cells0 ids0 cid cv k1 k2 k3=> ?_
 obtain⟨kind,kids⟩:=f;simp only[qQ]at hm
 split at hm
 case isFalse=>cases hm
 rename_i hlk;injection hm with hm;subst hm;simp only[iB]at k2 hlk;have hcl:=k1.len;generalize hR:cells0++ [PV.int .i64 kind, .str [],cv]++rest=R at h2 h3;have lenR:R.length=c*3:=h3;have hc0:fs.length+1<=c:=by rw[<-hR]at h3;simp at h3;omega
 have gR2:R[fs.length*3+2]? =some cv:=by rw[<-hR,<-hcl];simp
 have bR:(fs.length*3+2+1<=R.length)=True:=by simp;omega
 have hip:=lG h1;have his:=lG h2;have q1:∀L,(H++L)[ip]? =some (.row [.slice (toks.map Tk.enc) .none, .int .i64 (pos:Nat), .msl is 0 (fs.length+1) c]):=λL=>by rw[aSv hip];exact h1
 have q2:∀L,(H++L)[is]? =some (.row R):=λL=>by rw[aSv his];exact h2
 have qs:∀L o,(H++L).set is o=H.set is o++L:=λL o=>List.set_append_left _ _ his;have hmx:maxLen=9223372036854775807:=z7
 have gw:IntKind.i64.wrap (((fs.length+1:Nat):Int) -1)=((fs.length:Nat):Int):=by rw[aY z8 z8];omega
 have gi:=bS (n:=fs.length+1) (i:=fs.length) z8;have ff:∀k,(is=H.length+k)=False:=λk=>by simp;omega
 have ff0:(is=H.length)=False:=by simp;omega
 have fb:∀k,(H.length+k==is)=false:=λk=>by simp;omega
 have fb':∀k,(is==H.length+k)=false:=λk=>by simp;omega
 have fg:∀k,(H.length+k=is)=False:=λk=>by simp;omega
 have fg0:(H.length=is)=False:=by simp;omega
 have x1:=a5 q1 q2 qs fS (a5 fR iT gR2 bR (a5 gw gi ff ff0 (a4 fg fg0 fb fb')));refine ZE (a2 dM x1) ?_;refine wQ ?_;refine dA (by kernel_rfl) ?_;refine FM (a5 y3 nG dM gF x1) ?_;rcases k2.cases3 with⟨hcv,hcid⟩| ⟨ic,hcid,hcv,hic⟩| ⟨ic,c1,e1,e2,e3,rest1,hcid,hcv,hic,hr1,hr2,hr3⟩
 ·
  subst hcv hcid;refine wQ ?_;refine eK 0 (by kernel_rfl) ?_;refine gM 7 (bm:= [0,1,3,7,0,15,0,127,255,511,255,1279,3327]) (by kernel_rfl) z7 (by kernel_rfl) (by kernel_rfl) ?_;refine FM (a3 nG dM x1) ?_;refine kK (k:=7) (bm:= [0,1,3,7,0,15,0,127,255,511,255,1279,3327]) (by kernel_rfl) rfl (by kernel_rfl) (by kernel_rfl) ?_;refine lN (n:=kids.length) (oc:=aH (kids.map St.enc)) (e1:=.agg [.int .i64 0, .str [], .slice [] .none]) (tl:=.full) (mL tN) rfl z7 z7 (fV tN) (by show _*48<=_;omega) z8 rfl eB (by rw[eB];rfl) tY rfl (λE v ho hE hv=>PT z6 (λe he=>by obtain⟨v,_,rfl⟩:=aTq.1 he;exact v.enc_len) hv) ?_;intro c1 rest1 hc1 hc2 hrest1;refine oN ?_;show kB _ _ _ _ _ _ _ _;obtain⟨RR,hRR⟩:∃RR,RR=(aH (kids.map St.enc)++PV.cells (.agg [.int .i64 0, .str [], .slice [] .none])++rest1):=⟨_,rfl⟩;rw[<-hRR];have lr1:rest1.length=(c1- (kids.length+1))*3:=by rw[hrest1];simp[PV.cells]
  have lRR:RR.length=c1*3:=by rw[hRR];simp[cG,PV.cells,lr1];omega
  have hb3:(kids.length*3+3<=c1*3)=True:=by simp;omega
  have gk:=bS (n:=kids.length+1) (i:=kids.length) z8;refine gJ 5 (bm:= [0,1,3,7,0,15,0,127,255,511,255,1279,3327]) (by kernel_rfl) z7 (by kernel_rfl) (by kernel_rfl) ?_;refine kU (bm:= [0,1,3,7,0,15,0,127,255,511,255,1279,3327]) (fresh:=H.length+7) (by kernel_rfl) (Zd (a5 nG dM hb3 lRR (a2 gk x1))) z7 ?_;refine fF ?_;refine⟨.inl rfl,_,rfl, ?_⟩;refine⟨rfl,KF h1 hR h3 h4 k1 k3 hne hi1 hi2 his hpos hlim (cv':=.msl (H.length+1) 0 (kids.length+1) c1) (cid':= [H.length+1]) z6 (ap1 his) (λj hj hn hm=>RX hj hn) (.of (kids:=kids++ [t]) (rest:=rest1) z6 (ap3.trans (by rw[hRR];show some (AObj.row _)=_;rw[uL];refine congrArg (λz=>some (AObj.row z)) ?_;show List.set (List.set (List.set ((aH (kids.map St.enc)++ [_,_,_])++rest1) _ _) _ _) _ _=_;rw[aUa];exact zV (cG kids))) (by simp[lr1];omega) hc2) (λi hi=>by rw[aT2]at hi;subst hi;exact .inr z8)⟩
 ·
  subst hcv hcid;have q3:∀L,(H++L)[ic]? =some (.row (aH (kids.map St.enc))):=λL=>by rw[aSv (lG hic)];exact hic
  refine wQ ?_;refine eK 0 (by kernel_rfl) ?_;refine gM 7 (bm:= [0,1,3,7,0,15,0,127,255,511,255,1279,3327]) (by kernel_rfl) z7 (by kernel_rfl) (by kernel_rfl) ?_;refine FM (a3 nG dM x1) ?_;refine kK (k:=7) (bm:= [0,1,3,7,0,15,0,127,255,511,255,1279,3327]) (by kernel_rfl) rfl (by kernel_rfl) (by kernel_rfl) ?_;refine lN (n:=kids.length) (oc:=aH (kids.map St.enc)) (e1:=.agg [.int .i64 0, .str [], .slice [] .none]) (tl:=.full) (mL tN) rfl z7 z7 (fV tN) (by show _*48<=_;omega) z8 rfl eB (by rw[eB];rfl) tY rfl (λE v ho hE hv=>sE ho (cs:=aH (kids.map St.enc)) (by rw[hE];exact q3 _) (cG kids) hv) ?_;intro c1 rest1 hc1 hc2 hrest1;refine oN ?_;show kB _ _ _ _ _ _ _ _;obtain⟨RR,hRR⟩:∃RR,RR=(aH (kids.map St.enc)++PV.cells (.agg [.int .i64 0, .str [], .slice [] .none])++rest1):=⟨_,rfl⟩;rw[<-hRR];have lr1:rest1.length=(c1- (kids.length+1))*3:=by rw[hrest1];simp[PV.cells]
  have lRR:RR.length=c1*3:=by rw[hRR];simp[cG,PV.cells,lr1];omega
  have hb3:(kids.length*3+3<=c1*3)=True:=by simp;omega
  have gk:=bS (n:=kids.length+1) (i:=kids.length) z8;refine gJ 5 (bm:= [0,1,3,7,0,15,0,127,255,511,255,1279,3327]) (by kernel_rfl) z7 (by kernel_rfl) (by kernel_rfl) ?_;refine kU (bm:= [0,1,3,7,0,15,0,127,255,511,255,1279,3327]) (fresh:=H.length+7) (by kernel_rfl) (Zd (a5 nG dM hb3 lRR (a2 gk x1))) z7 ?_;refine fF ?_;refine⟨.inl rfl,_,rfl, ?_⟩;refine⟨rfl,KF h1 hR h3 h4 k1 k3 hne hi1 hi2 his hpos hlim (cv':=.msl (H.length+1) 0 (kids.length+1) c1) (cid':= [H.length+1]) z6 (ap1 his) (λj hj hn hm=>RX hj hn) (.of (kids:=kids++ [t]) (rest:=rest1) z6 (ap3.trans (by rw[hRR];show some (AObj.row _)=_;rw[uL];refine congrArg (λz=>some (AObj.row z)) ?_;show List.set (List.set (List.set ((aH (kids.map St.enc)++ [_,_,_])++rest1) _ _) _ _) _ _=_;rw[aUa];exact zV (cG kids))) (by simp[lr1];omega) hc2) (λi hi=>by rw[aT2]at hi;subst hi;exact .inr z8)⟩
 ·
  subst hcv hcid;have hic1:=lG hic;have gk:=bS (n:=kids.length+1) (i:=kids.length) z8;have nis:ic≠is:=λe=>hi2 (by simp[e]);have n1:(ic==is)=false:=by simpa using nis
  have n2:(is==ic)=false:=by simpa using Ne.symm nis
  have n3:∀k,(ic=H.length+k)=False:=λk=>by simp;omega
  refine wQ ?_;refine eK 0 (by kernel_rfl) ?_;refine gM 7 (bm:= [0,1,3,7,0,15,0,127,255,511,255,1279,3327]) (by kernel_rfl) z7 (by kernel_rfl) (by kernel_rfl) ?_;refine FM (a3 nG dM x1) ?_;refine kK (k:=7) (bm:= [0,1,3,7,0,15,0,127,255,511,255,1279,3327]) (by kernel_rfl) rfl (by kernel_rfl) (by kernel_rfl) ?_;refine pN (id:=ic) (n:=kids.length) (c:=c1) (cs:=aH (kids.map St.enc)++e1::e2::e3::rest1) (e1:=.agg [.int .i64 0, .str [], .slice [] .none]) (tl:=.full) (by rw[aSv hic1];exact hic) (mL tN) rfl z7 z7 (fV tN) (fV tN) z8 (by simp[cG];omega) rfl rfl eB (by rw[eB];rfl) ?_;refine oN ?_;show kB _ _ _ _ _ _ _ _;obtain⟨RR,hRR⟩:∃RR,RR=cY (aH (kids.map St.enc)++e1::e2::e3::rest1) (kids.length*3) (PV.cells (.agg [.int .i64 0, .str [], .slice [] .none])):=⟨_,rfl⟩;rw[<-hRR];have hRR2:RR=aH (kids.map St.enc)++PV.int .i64 0::PV.str []::PV.slice [] .none::rest1:=by rw[hRR];show cY _ _ [_,_,_]=_;simp only[cY];rw[zV (cG kids)];simp
  have lRR:RR.length=c1*3:=by rw[hRR2];simp[cG];omega
  have hb3:(kids.length*3+3<=c1*3)=True:=by simp;omega
  rw[XT hic1];have q5:∀o L,(H.set ic o++L)[ic]? =some o:=λo L=>ap1 hic1;have q6:∀o L,(H.set ic o++L)[is]? =some (.row R):=λo L=>by rw[RX his (λe=>hi2 (by simp[e]))];exact h2
  have q7:∀o o2 L,(H.set ic o++L).set ic o2=H.set ic o2++L:=λo o2 L=>ap4 hic1;have q8:∀o o2 L,(H.set ic o++L).set is o2=(H.set ic o).set is o2++L:=λo o2 L=>ap5 his;refine gJ 5 (bm:= [0,1,3,7,0,15,0,127,255,511,255,1279,3327]) (by kernel_rfl) z7 (by kernel_rfl) (by kernel_rfl) ?_;refine kU (bm:= [0,1,3,7,0,15,0,127,255,511,255,1279,3327]) (fresh:=H.length+7) (by kernel_rfl) (Zd (a5 nG dM hb3 lRR (a5 gk q5 q6 q7 (a5 q8 n1 n2 n3 x1)))) z7 ?_;refine fF ?_;refine⟨.inl rfl,_,rfl, ?_⟩;refine⟨rfl,KF h1 hR h3 h4 k1 k3 hne hi1 hi2 his hpos hlim (cv':=.msl ic 0 (kids.length+1) c1) (cid':= [ic]) z6 (ap8 his) (λj hj hn hm=>(by rw[aT2]at hm;exact ap9 hj hm hn)) (.of (kids:=kids++ [t]) (rest:=rest1) z6 ((ap7 his hic1 (λe=>hi2 (by simp[e]))).trans (by rw[hRR2,uL];refine congrArg (λz=>some (AObj.row z)) ?_;exact zV (cG kids))) hr2 hr3) (λi hi=>by rw[aT2]at hi;subst hi;exact .inl z6)⟩
theorem KX{P:Program}{N:Nat}{f:FuncId}{fn:Func}{args:List PV}{R:PV->aC->Prop}{H:aC}(hf:P.funcs[f]? =some fn)(hN:fn.ntmps=N)(hl:args.length<=N)(l:List (Nat×PV))
  (hl2:(List.range args.length).map (λd=>(d,enter args d))=l)
  (h:∃c,fn.body=some c/\eA P N H.length c (λe T H'=>(e= .normal\/e= .ret)/\∃r,fP P N T H' fn.results.toList=some r/\R r H') (uD l) H):aN P f args H R:=by
 obtain⟨c,hb,h⟩:=h;exact aF hf hb hN hl λ_=>wL (List.range args.length) hl2 h
def FN(P:Program)(toks:List Tk)(ip:Nat)(f:FuncId)(args:List PV)(m:PS->Option PS)(rv:PS->PS->PV):Prop:=
 ∀(s s':PS) (F:List Nat) (H:aC),m s=some s'->eJ toks ip s F H->aN P f args H λr H'=>r=rv s s'/\∃F',eJ toks ip s' F' H'/\Fr F F' H H'
def cM:PS->PS->PV:=λ_ _=>.tup []
theorem FN.ap{P:Program}{toks:List Tk}{ip:Nat}{f:FuncId}{args:List PV}{m:PS->Option PS}{rv:PS->PS->PV}(h:FN P toks ip f args m rv){s s':PS}{F:List Nat}{H:aC}(hm:m s=some s')(hp:eJ toks ip s F H)(L:aC):
  aN P f args (H++L) λr H'=>r=rv s s'/\∃F',eJ toks ip s' F' H'/\Fr F F' (H++L) H':=h s s' F _ hm (hp.app L)
theorem FN.ap0{P:Program}{toks:List Tk}{ip:Nat}{f:FuncId}{args:List PV}{m:PS->Option PS}{rv:PS->PS->PV}(h:FN P toks ip f args m rv){s s':PS}{F:List Nat}{H:aC}(hm:m s=some s')(hp:eJ toks ip s F H):
  aN P f args H λr H'=>r=rv s s'/\∃F',eJ toks ip s' F' H'/\Fr F F' H H':=h s s' F _ hm hp
theorem MV(toks:List Tk)(ip:Nat)(t:St):FN Tryz.prog toks ip 166 [.optr ip 0,t.enc] (qQ t) cM:=by
 intro s s' F H hm hp;exact KX (N:=27) Tryz.func166 rfl z6 [(0, .optr ip 0),(1,t.enc)] rfl (aGi hm hp)
theorem PI:∀(n:Nat) (l:List PV),l.length=n*3->∃es:List PV,es.length=n/\aH es=l/\∀e∈es,e.cells.length=3
 |0,[],h=>⟨[],rfl,rfl,z6⟩
 |0,a::l,h=>by simp at h
 |n+1,[],h=>absurd h z6
 |n+1,[a],h=>by simp at h;omega
 |n+1,[a,b],h=>by simp at h;omega
 |n+1,a::b::c::l,h=>by
  obtain⟨es,h1,h2,h3⟩:=PI n l (by simp at h;omega);refine⟨.agg [a,b,c]::es,by simp[h1],by simp[aH,PV.cells]at h2⊢;exact h2,λe he=> ?_⟩;rcases aTv.1 he with rfl|he
  ·rfl
  ·exact h3 e he
theorem aPh{toks:List Tk}{ip:Nat}{s s':PS}{F:List Nat}{H:aC}{k:Int}{kids:List St}{cid:List Nat}{cv:PV}(hm:qQ ⟨k,[],kids⟩ s=some s')(hp:eJ toks ip s F H)(hc:oA H cv kids cid)(hd:∀i∈cid,i∉F):
  aN Tryz.prog 166 [.optr ip 0, .agg [.int .i64 k, .str [],cv.drop1]] H λr H'=>r= .tup []/\∃F',eJ toks ip s' F' H'/\Fr (cid++F) F' H H':=by
 have hpl:∀cv',cv'=(St.mk k [] kids).enc->cid= []->aN Tryz.prog 166 [.optr ip 0,cv'] H λr H'=>r= .tup []/\∃F',eJ toks ip s' F' H'/\Fr (cid++F) F' H H':=by
  rintro _ rfl rfl;exact MV toks ip _ s s' F H hm hp
 cases hc with
 |nil=>exact hpl _ (by rw[St.enc_eq];rfl) rfl
 | @msl ic c _ rest hH hcl hmx=>
  obtain⟨es,e1,e2,e3⟩:=PI (c-kids.length) rest z8;have hil:=lG hH;have hp2:eJ toks ip s F (H.set ic EA):=hp.fr λi hi=>by rw[aS0 (by rintro rfl;exact hd _ z6 hi)]
  obtain⟨cd,hb,hw⟩:=aGi (nb:=H.length) hm hp2;refine KX (N:=27) Tryz.func166 rfl z6 [(0, .optr ip 0),(1, .agg [.int .i64 k, .str [], .msl ic 0 kids.length c])] rfl ⟨cd,hb, ?_⟩;have hrow:H[ic]? =some (.row (aH (kids.map St.enc++es))):=by rw[hH,cN,e2]
  refine MB ic kids.length 3 1 (kids.map St.enc++es) hrow z6 (λe he=> ?_) rfl (q:=(St.mk k [] kids).enc) ?_ ?_
  ·rcases aTs.1 he with he|he
   ·obtain⟨v,_,rfl⟩:=aTq.1 he;exact v.enc_len
   ·exact e3 e he
  ·rw[St.enc_eq];refine .agg _ _ rfl λi h1 h2=> ?_
   match i,h1,h2 with
   |0,_,_=>exact .same _
   |1,_,_=>exact .same _
   |2,_,_=>
    have:(kids.map St.enc++es).take kids.length=kids.map St.enc:=by rw[List.take_append_of_le_length z6,aUf z6]
    have h:=Fz.msl (id:=ic) (k:=kids.length) (es:=kids.map St.enc++es) c z8;rw[this]at h;exact h
  ·refine wL [0,1] rfl ?_;refine eA.mono hw ?_;rintro e T H' ⟨h1,r,h2,h3,F',h4,h5⟩;refine⟨h1,r,h2,h3,F',h4,⟨by have:=h5.len;rwa [lS]at this,λj hj hn=> ?_,λj hj hjl=> ?_⟩⟩
   ·simp only[aTs,aT2,not_or]at hn;rw[h5.same j (by rwa [lS]) hn.2,aS0 (Ne.symm hn.1)]
   ·exact aTs.2 (.inr (h5.ids j hj (by rwa [lS])))
theorem eJ.setpos{toks:List Tk}{ip:Nat}{s:PS}{F:List Nat}{H:aC}(h:eJ toks ip s F H){a b st:PV}(hr:H[ip]? =some (.row [a,b,st])){p:Nat}(hp:p<=toks.length):
  eJ toks ip {s with pos:=p} F (H.set ip (.row [a, .int .i64 (p:Nat),st]))/\Fr F F H (H.set ip (.row [a, .int .i64 (p:Nat),st])):=by
 have hm:=h.mem;have hil:=lG hr;obtain⟨is,c,cells,rest,ids,h1,h2,h3,h4,h5,rfl,h7,h8,h9,h10,h11⟩:=h;rw[hr]at h1;injection h1 with h1;injection h1 with h1;injection h1 with e1 h1;injection h1 with e2 h1;injection h1 with e3 _;subst e1 e3;refine⟨⟨is,c,cells,rest,ids, ?_, ?_,h3,h4,h5.fr λi hi=> ?_,rfl,h7,h8,h9,hp,h11⟩,z6,λj hj hn=> ?_,λj hj _=>hj⟩
 ·rw[aSz hil]
 ·rw[aS0 h7];exact h2
 ·rw[aS0 (by rintro rfl;exact h8 hi)]
 ·rw[aS0 (by rintro rfl;exact hn z6)]
theorem aCk{t:St}{s s':PS}(h:qQ t s=some s'):s'.pos=s.pos:=by
 unfold qQ at h
 split at h
 ·cases h
 ·split at h
  ·cases h;rfl
  ·cases h
theorem aA{H:aC}{i:Nat}{o:AObj}(h:H[i]? =some o)(L:aC):(H++L)[i]? =some o:=by rw[aSv (lG h)];exact h
theorem sD{toks:List Tk}{s s':PS}(h:KD toks s=some s'):∃(hlt:s.pos<toks.length) (s1:PS),qQ ⟨toks[s.pos].kind,toks[s.pos].text,[]⟩ s=some s1/\s1.pos=s.pos/\s'= {s1 with pos:=s1.pos+1}:=by
 unfold KD at h
 split at h
 ·cases h
 ·rename_i t ht;obtain⟨hlt,rfl⟩:=List.getElem?_eq_some_iff.1 ht;cases ha:qQ ⟨toks[s.pos].kind,toks[s.pos].text,[]⟩ s with
  |none=>rw[ha]at h;cases h
  |some s1=>rw[ha]at h;injection h with h;exact⟨hlt,s1,ha,aCk ha,h.symm⟩
theorem aV{n:Nat}(h:n<=iB):n<=4611686018427387904:=by unfold iB at h;omega
theorem vR{toks:List Tk}{s s':PS}(h:cJ toks s=some s'):∃s1,BG toks s=some s1/\(if s1.pos<toks.length then KD toks s1 else some s1)=some s':=by
 unfold cJ at h;cases hs:BG toks s with
 |none=>rw[hs]at h;cases h
 |some s1=>rw[hs]at h;exact⟨s1,rfl,h⟩
theorem eJ.ne{toks:List Tk}{ip:Nat}{s:PS}{F:List Nat}{H:aC}(h:eJ toks ip s F H):(ip=H.length)=False:=by have:=h.lt_ip;simp;omega
theorem eJ.neK{toks:List Tk}{ip:Nat}{s:PS}{F:List Nat}{H:aC}(h:eJ toks ip s F H)(k:Nat):(ip=H.length+k)=False:=by have:=h.lt_ip;simp;omega
theorem FN.apX{P:Program}{toks:List Tk}{ip:Nat}{f:FuncId}{args:List PV}{m:PS->Option PS}{rv:PS->PS->PV}(h:FN P toks ip f args m rv){s s':PS}{F:List Nat}{H H1:aC}(hm:m s=some s')(hp:eJ toks ip s F H1)(hL:∃L,H=H1++L:=by first|exact⟨[],(aT4 _).symm⟩|exact⟨_,rfl⟩):aN P f args H λr H'=>r=rv s s'/\∃F',eJ toks ip s' F' H'/\Fr F F' H H':=by
 obtain⟨L,rfl⟩:=hL;exact h.ap hm hp L
theorem FH(toks:List Tk)(ip:Nat):FN Tryz.prog toks ip 103 [.optr ip 0] (KD toks) cM:=by
 intro s s' F0 H0 hm p0;have f0:=Fr.refl F0 H0;obtain⟨st0,r0⟩:=p0.row;have q0:=aA r0;have hl:=aV p0.len;obtain⟨hlt,s1,hm1,hps,rfl⟩:=sD hm;have gi:=bS hlt;have ge:=eH Tk.enc hlt;have gw:IntKind.i64.wrap (((s1.pos:Nat):Int)+1)=((s1.pos+1:Nat):Int):=by rw[aY z8 z8];omega
 refine aF (N:=34) Tryz.func103 rfl rfl z6 λhb'=> ?_;refine wQ ?_;refine eK 0 (by kernel_rfl) ?_;refine gM 24 (bm:= [0,0,2,6,14,0,32,96,224,510,1022,2046,0,4096,12288,28672,0,65536,196608,458752,1044480,2093056,4190208,8388606,16777215]) (by kernel_rfl) z7 (by kernel_rfl) (by kernel_rfl) ?_;refine pX (a5 y3 y9 dM JZ (a5 gF lT q0 r0 (a3 gi ge tN))) ?_;refine kK (k:=24) (bm:= [0,0,2,6,14,0,32,96,224,510,1022,2046,0,4096,12288,28672,0,65536,196608,458752,1044480,2093056,4190208,8388606,16777215]) (by kernel_rfl) rfl (by kernel_rfl) (by kernel_rfl) ?_;refine qN (a5 q0 r0 gi ge tN) (MV toks ip _ s s1 F0 _ hm1 p0) ?_;rintro _ H1 ⟨rfl,F1,p1,f1⟩;obtain⟨st1,r1⟩:=p1.row;have q1:=aA r1;have n1:=p1.ne;show kB _ _ _ _ _ _ _ _;refine fF ?_;refine qL [0] (a5 q0 r0 gi ge (a5 tN q1 r1 gw n1)) ?_;refine qE (a5 y3 gF q0 r0 (a5 gi ge tN q1 (a3 r1 gw n1))) ?_;refine dL ?_;have hh:=p1.setpos r1 (p:=s1.pos+1) z8;exact⟨rfl,F1,hh.1,f1.trans hh.2⟩
theorem xW(toks:List Tk)(ip:Nat):FN Tryz.prog toks ip 55 [.optr ip 0] (BG toks) cM:=by
 intro s s' F0 H0 hm p0;have f0:=Fr.refl F0 H0;obtain⟨st0,r0⟩:=p0.row;have q0:=aA r0;have hl:=aV p0.len;obtain⟨n,hn⟩:∃n,toks.length-s.pos=n:=⟨_,rfl⟩;unfold BG at hm;rw[hn]at hm;refine aF (N:=28) Tryz.func55 rfl rfl z6 λhb'=> ?_;refine qB ?_;refine eC (σ:=Nat×PS×List Nat) (λ(z:Nat×PS×List Nat)=> [(0, .optr ip 0)]) (λ(z:Nat×PS×List Nat)=>λH1=>wU toks z.1 z.2.1=some s'/\toks.length-z.2.1.pos=z.1/\eJ toks ip z.2.1 z.2.2 H1/\Fr F0 z.2.2 H0 H1) (λ(z:Nat×PS×List Nat)=>z.1) ((n,s,F0)) ⟨(Zf (a2 q0 r0)),trivial⟩ (⟨hm,hn,p0,f0⟩) ?_;intro z H1 hg;obtain⟨k,s1,F1⟩:=z;obtain⟨hm1,hn1,p1,f1⟩:=hg;simp only at hm1 hn1 p1 f1;obtain⟨st1,r1⟩:=p1.row;have q1:=aA r1;have hc:=p1.pos;rcases aSk s1.pos toks.length with hlt|hge
 ·
  have gi:=bS hlt;have ge:=eH Tk.enc hlt;have gl:decide ((s1.pos:Int)<(toks.length:Int))=true:=decide_eq_true z8;obtain⟨k,rfl⟩:∃k0,k=k0+1:=⟨k-1,z8⟩;unfold wU at hm1;rw[aTd hlt]at hm1;simp only at hm1;refine wQ ?_;refine dA (by kernel_rfl) ?_;have x1:=a5 q0 r0 q1 r1 (a3 gi ge gl);refine pT 22 (a5 y3 JZ gF lT (a2 tN x1)) ?_;refine pK (a2 tN x1) aAv (λhc=>EF _ _) ?_;refine pX (a2 tN x1) ?_;refine qI (a2 tN x1) (λbt25=> ?_) (λbt25=> ?_)
  ·
   rw[if_pos bt25]at hm1;obtain⟨s2,hb1,hb2⟩:=oB hm1;refine qK ?_;refine qB ?_;refine qL [0] (a2 tN x1) ?_;refine qW 1 (a2 tN x1) ((FH toks ip).ap0 hb1 p1) ?_;rintro _ H2 ⟨rfl,F2,p2,g2⟩;have n2:=p2.ne;have m2:=p2.neK;have f2:=f1.stX g2;obtain⟨st2,r2⟩:=p2.row;have q2:=aA r2
   try simp only[aW,aO]
   exact⟨(k,s2,F2),by show k<k+1;omega,⟨rfl,trivial⟩,hb2,by have:=sD hb1;obtain⟨h1,s3,h2,h3,h4⟩:=this;rw[h4];show toks.length- (s3.pos+1)=k;omega,p2,f2⟩
  ·
   rw[if_neg (by rw[bt25];simp)]at hm1;injection hm1 with hm1;subst hm1;refine wQ ?_;refine bD ?_;simp only[aW,aO,reduceIte,Nat.reduceEqDiff,aUb,if_true,if_false];refine dL ?_;exact⟨rfl,F1,p1,f1⟩
 ·
  have gl:decide ((s1.pos:Int)<(toks.length:Int))=false:=decide_eq_false z8;have hk0:k=0:=z8
  subst hk0;injection hm1 with hm1;subst hm1;refine wQ ?_;refine dA (by kernel_rfl) ?_;have x2:=a5 q0 r0 q1 r1 gl;refine pT 11 (a5 y3 JZ gF lT x2) ?_;refine pS x2 ?_;refine pS x2 ?_;refine pS x2 ?_;refine pS x2 ?_;refine pS x2 ?_;refine pS x2 ?_;refine pS x2 ?_;refine pS x2 ?_;refine pS x2 ?_;refine pS x2 ?_;refine pS x2 ?_;refine pS x2 ?_;refine pX x2 ?_;refine qF x2 ?_;refine wQ ?_;refine bD ?_;simp only[aW,aO,reduceIte,Nat.reduceEqDiff,aUb,if_true,if_false];refine dL ?_;exact⟨rfl,F1,p1,f1⟩
theorem cC(toks:List Tk)(ip:Nat):FN Tryz.prog toks ip 100 [.optr ip 0] (cJ toks) cM:=by
 intro s s' F0 H0 hm p0;have f0:=Fr.refl F0 H0;obtain⟨st0,r0⟩:=p0.row;have q0:=aA r0;have hl:=aV p0.len;obtain⟨s1,hm1,hm2⟩:=vR hm;refine aF (N:=16) Tryz.func100 rfl rfl z6 λhb'=> ?_;refine qW 1 (a2 q0 r0) (FN.apX (xW toks ip) hm1 p0) ?_;rintro _ H1 ⟨rfl,F1,p1,g1⟩;have n1:=p1.ne;have m1:=p1.neK;have f1:=f0.stX g1;obtain⟨st1,r1⟩:=p1.row;have q1:=aA r1;rcases aSk s1.pos toks.length with hlt|hge
 ·
  have gl:decide ((s1.pos:Int)<(toks.length:Int))=true:=decide_eq_true z8;rw[if_pos hlt]at hm2;refine wQ ?_;refine dA (by kernel_rfl) ?_;refine pX (a5 y3 JZ gF lT (a5 q0 r0 q1 r1 (a3 n1 m1 gl))) ?_;refine ZG (a5 q0 r0 q1 r1 (a3 n1 m1 gl)) ?_;refine qW 1 (a5 q0 r0 q1 r1 (a3 n1 m1 gl)) (FN.apX (FH toks ip) hm2 p1) ?_;rintro _ H2 ⟨rfl,F2,p2,g2⟩;have n2:=p2.ne;have m2:=p2.neK;have f2:=f1.stX g2;obtain⟨st2,r2⟩:=p2.row;have q2:=aA r2;refine dL ?_;exact⟨rfl,F2,p2,f2⟩
 ·
  have gl:decide ((s1.pos:Int)<(toks.length:Int))=false:=decide_eq_false z8;rw[if_neg z8]at hm2;injection hm2 with hm2;subst hm2;refine wQ ?_;refine dA (by kernel_rfl) ?_;refine pX (a5 y3 JZ gF lT (a5 q0 r0 q1 r1 (a3 n1 m1 gl))) ?_;refine qF (a5 q0 r0 q1 r1 (a3 n1 m1 gl)) ?_;refine qK ?_;refine dL ?_;exact⟨rfl,F1,p1,f1⟩
theorem rK(toks:List Tk)(ip:Nat):FN Tryz.prog toks ip 236 [.optr ip 0] (oH 46) cM:=by
 intro s s' F0 H0 hm p0;have f0:=Fr.refl F0 H0;obtain⟨st0,r0⟩:=p0.row;have q0:=aA r0;have hl:=aV p0.len;refine aF (N:=5) Tryz.func236 rfl rfl z6 λhb'=> ?_;refine qT 2 (a5 dM q0 r0 fS fR) ?_;refine qN (a4 q0 r0 fS fR) (FN.apX (MV toks ip (St.mk 46 [] [])) hm p0) ?_;rintro _ H1 ⟨rfl,F1,p1,g1⟩;have n1:=p1.ne;have m1:=p1.neK;have f1:=f0.stX g1;obtain⟨st1,r1⟩:=p1.row;have q1:=aA r1;refine dL ?_;exact⟨rfl,F1,p1,f1⟩
theorem pE(toks:List Tk)(ip:Nat):FN Tryz.prog toks ip 229 [.optr ip 0] (oH 108) cM:=by
 intro s s' F0 H0 hm p0;have f0:=Fr.refl F0 H0;obtain⟨st0,r0⟩:=p0.row;have q0:=aA r0;have hl:=aV p0.len;refine aF (N:=5) Tryz.func229 rfl rfl z6 λhb'=> ?_;refine qT 2 (a5 dM q0 r0 fS fR) ?_;refine qN (a4 q0 r0 fS fR) (FN.apX (MV toks ip (St.mk 108 [] [])) hm p0) ?_;rintro _ H1 ⟨rfl,F1,p1,g1⟩;have n1:=p1.ne;have m1:=p1.neK;have f1:=f0.stX g1;obtain⟨st1,r1⟩:=p1.row;have q1:=aA r1;refine dL ?_;exact⟨rfl,F1,p1,f1⟩
theorem yK(toks:List Tk)(ip:Nat):FN Tryz.prog toks ip 222 [.optr ip 0] (oH 0) cM:=by
 intro s s' F0 H0 hm p0;have f0:=Fr.refl F0 H0;obtain⟨st0,r0⟩:=p0.row;have q0:=aA r0;have hl:=aV p0.len;refine aF (N:=5) Tryz.func222 rfl rfl z6 λhb'=> ?_;refine qT 2 (a5 dM q0 r0 fS fR) ?_;refine qN (a4 q0 r0 fS fR) (FN.apX (MV toks ip (St.mk 0 [] [])) hm p0) ?_;rintro _ H1 ⟨rfl,F1,p1,g1⟩;have n1:=p1.ne;have m1:=p1.neK;have f1:=f0.stX g1;obtain⟨st1,r1⟩:=p1.row;have q1:=aA r1;refine dL ?_;exact⟨rfl,F1,p1,f1⟩
theorem eG(toks:List Tk)(ip:Nat)(xs:List (List UInt8))(hx:xs.length<=maxLen):FN Tryz.prog toks ip 99 [.optr ip 0, .slice (xs.map PV.str) .none] (cH toks xs) (λs _=>.bool (PZ toks s xs)):=by
 intro s s' F0 H0 hm p0;have f0:=Fr.refl F0 H0;obtain⟨st0,r0⟩:=p0.row;have q0:=aA r0;have hl:=aV p0.len;unfold cH at hm;refine aF (N:=10) Tryz.func99 rfl rfl z6 λhb'=> ?_;refine qE (a2 q0 r0) ?_;refine qT 2 (a2 q0 r0) ?_;refine qP (a2 q0 r0) dJ (fM (mB r0) hl p0.pos xs hx) ?_;refine oN ?_;refine qI (a2 q0 r0) (λbt7=> ?_) (λbt7=> ?_)
 ·
  rw[if_pos bt7]at hm;refine qW 1 (a2 q0 r0) (FN.apX (cC toks ip) hm p0) ?_;rintro _ H1 ⟨rfl,F1,p1,g1⟩;have n1:=p1.ne;have m1:=p1.neK;have f1:=f0.stX g1;obtain⟨st1,r1⟩:=p1.row;have q1:=aA r1;refine qE (a5 q0 r0 q1 r1 (a2 n1 m1)) ?_;refine wQ ?_;refine wT ⟨.inr rfl,_,rfl, ?_⟩;refine⟨?_,F1,p1,f1⟩;simp only[jN,seval,aB,qC,PZ,bt7]
  try rfl
 ·
  rw[if_neg (by simp[PZ,bt7])]at hm;injection hm with hm;subst hm;refine qK ?_;refine qE (a2 q0 r0) ?_;refine wQ ?_;refine wT ⟨.inr rfl,_,rfl, ?_⟩;refine⟨?_,F0,p0,f0⟩;simp only[jN,seval,aB,qC,PZ,bt7]
  try rfl
theorem bL(toks:List Tk)(ip:Nat)(t:List UInt8):FN Tryz.prog toks ip 162 [.optr ip 0, .str t] (bP toks t) cM:=by
 intro s s' F0 H0 hm p0;have f0:=Fr.refl F0 H0;obtain⟨st0,r0⟩:=p0.row;have q0:=aA r0;have hl:=aV p0.len;obtain⟨s1,hm1,hm2⟩:=oB hm;refine aF (N:=11) Tryz.func162 rfl rfl z6 λhb'=> ?_;refine qT 3 (a4 y9 fQ q0 r0) ?_;refine qA (a2 q0 r0) wV (FN.apX (eG toks ip [t] (by show 1<=maxLen;decide)) hm1 p0) ?_;rintro _ H1 ⟨rfl,F1,p1,g1⟩;have n1:=p1.ne;have m1:=p1.neK;have f1:=f0.stX g1;obtain⟨st1,r1⟩:=p1.row;have q1:=aA r1;refine qX (a2 q0 r0) ?_;refine qI (a5 q0 r0 q1 r1 (a2 n1 m1)) (λbt8=> ?_) (λbt8=> ?_)
 ·
  have bt8:PZ toks s [t]=false:=by simpa using bt8
  rw[if_neg (by rw[bt8];simp)]at hm2;refine qW 1 (a5 q0 r0 q1 r1 (a2 n1 m1)) (FN.apX (pE toks ip) hm2 p1) ?_;rintro _ H2 ⟨rfl,F2,p2,g2⟩;have n2:=p2.ne;have m2:=p2.neK;have f2:=f1.stX g2;obtain⟨st2,r2⟩:=p2.row;have q2:=aA r2;refine dL ?_;exact⟨rfl,F2,p2,f2⟩
 ·
  have bt8:PZ toks s [t]=true:=by simpa using bt8
  rw[if_pos bt8]at hm2;injection hm2 with hm2;subst hm2;refine qK ?_;refine dL ?_;exact⟨rfl,F1,p1,f1⟩
theorem cI(toks:List Tk)(ip:Nat):FN Tryz.prog toks ip 159 [.optr ip 0] (bK toks) cM:=by
 intro s s' F0 H0 hm p0;have f0:=Fr.refl F0 H0;obtain⟨st0,r0⟩:=p0.row;have q0:=aA r0;have hl:=aV p0.len;unfold bK at hm;refine aF (N:=8) Tryz.func159 rfl rfl z6 λhb'=> ?_;refine qT 1 (a2 q0 r0) ?_;refine qP (a2 q0 r0) mK (fA (mB r0) hl p0.pos) ?_;refine oN ?_;refine qI (a2 q0 r0) (λbt3=> ?_) (λbt3=> ?_)
 ·
  rw[if_pos bt3]at hm;refine qW 1 (a2 q0 r0) (FN.apX (cC toks ip) hm p0) ?_;rintro _ H1 ⟨rfl,F1,p1,g1⟩;have n1:=p1.ne;have m1:=p1.neK;have f1:=f0.stX g1;obtain⟨st1,r1⟩:=p1.row;have q1:=aA r1;refine dL ?_;exact⟨rfl,F1,p1,f1⟩
 ·
  rw[if_neg (by simp only[aAs,bt3];simp)]at hm;refine qW 1 (a2 q0 r0) (FN.apX (pE toks ip) hm p0) ?_;rintro _ H2 ⟨rfl,F2,p2,g2⟩;have n2:=p2.ne;have m2:=p2.neK;have f2:=f0.stX g2;obtain⟨st2,r2⟩:=p2.row;have q2:=aA r2;refine dL ?_;exact⟨rfl,F2,p2,f2⟩
section
variable{P:Program}{N nb:Nat}{ops:Array Oper}{Q:dG}
theorem GB{E:aE}{a:Act}{T:aD}(ht:eR E.view N a T)(ho:E.Ok){t:TypeId}{n:Nat}{ps:Array (Nat×Operand)}(hok:ps.toList.all (λx=>aQ N x.2)=true){ei:TypeId×TI}(hf:dH P t=some ei){z:PV}(hz:dC P ei.1=some z)
  (hfit:z.fits ei.2=true) (hs0:0<ei.2.sz) (hn:0<n) (hsz:n*ei.2.sz<=2^24) {es:List PV} (hb:fH ei.2 T (aS6 n z) ps.toList=some es) {id:Nat} (hid:E.H[id]? =some .unborn):
  ∃E' val,(Instr.buildSlice t n (ps.map λ(i,x)=>(i,a.eval x))).run P E.w= .ok val E'.w/\E.le E'/\E'.Ok/\E'.H=E.H.set id (.row (aH es))/\aL E'.view val (.msl id 0 n n):=by
 obtain⟨e,i⟩:=ei;obtain⟨h1,h2⟩:=dE hf;obtain⟨d,f,h3,h4,rfl⟩:=cA h2;obtain⟨f',v,h5,h6,rfl⟩:=eQ hz;simp only at hfit hs0 hsz hb h5;rw[h4]at h5;cases h5;obtain⟨hc1,hc2⟩:=PV.fits_spec hfit;simp only at hc1;obtain⟨c1,c2⟩:=(dR E.view v).not_junk_cells hc2;have hvs:v.cells.size=f.size:=c1.trans hc1;have hrl:=qV (V:=E.view) v hc2 n;have hes:∀e∈aS6 n (aT v),e.cells.length=f.size:=by
  intro e he;rw[(List.mem_replicate.1 he).2,hc1]
 obtain⟨arr',e1,e2,e3,e4⟩:=rE ht ⟨vM d,f.size,f.bytes⟩ ps.toList _ _ es hrl hes hok hb;rw[List.length_replicate]at e4;have hle:=aE.newRow_le ho hid arr' e (aH es);have hlen:=lG hid;refine⟨E.newRow id arr' e (aH es), .slice (some ⟨E.w.heap.size,0,none⟩) n n, ?_,hle,aE.Ok.newRow ho hid arr' e (aH es) e2.1 e2.2,rfl, ?_⟩
 ·simp only[Instr.buildSlice,aS4,aS h1,dK h4,aS5];have hlt:¬n*f.size>2^24:=z8
  simp only[hlt,if_false,aS7,aS5,Sem.run_ite,aS4];have hn0:¬n*f.size=0:=by have:=Nat.mul_pos hn hs0;omega
  simp only[if_neg hn0,jH h4 h6,aS5,aS4,aS7];rw[Array.toList_map];rw[hvs]at e1;simp only[hvs,e1,newRow,aS4,run_newObj,aS5,aS7];rfl
 ·have hm:n<=maxLen:=by
   have:n<=n*f.size:=Nat.le_mul_of_pos_right _ hs0;unfold maxLen;omega
  have:=aL.msl (V:=(E.newRow id arr' e (aH es)).view) id 0 n n ⟨.row _,by simp only[aE.newRow];exact aSz hlen,z6⟩ hm;simpa[aE.view,aE.newRow]using this
theorem SJ{bm:List Nat}{k:Nat}{o:Oper}{l:List Oper}{prev:fD}{T:aD}{H:aC}(id:Nat){t:TypeId}{n:Nat}{ps:Array (Nat×Operand)}{ei:TypeId×TI}{z:PV}{es:List PV}(hbm:cL ops.toList=bm)(hid:H[id]? =some .unborn)(hw:aU ops.toList T N o=some true)
  (hop:o.op= .buildSlice t n ps) (hok:ps.toList.all (λx=>aQ N x.2)=true) (hf:dH P t=some ei) (hz:dC P ei.1=some z)
  (hfit:z.fits ei.2=true) (hs0:0<ei.2.sz) (hn:0<n) (hsz:n*ei.2.sz<=2^24) (hb:fH ei.2 T (aS6 n z) ps.toList=some es) (hap:nM (bm.getD k 0) prev [id] [id]=true)
  (h:iI P N ops Q (k+1) l (prev++ [(k,[id],[id])]) (bU T o.dst (.msl id 0 n n)) (H.set id (.row (aH es)))):iI P N ops Q k (o::l) prev T H:=by
 refine⟨_,[(id, .row (aH es))],[id], ?_,z6,lM (eff:= [(id, .row (aH es))]) (by rw[hbm];exact hap),h⟩;intro T' H' hT hH hlen E a ho hE ht;refine .inr ⟨cB ht (gL hT hw),λnext Q' hn'=> ?_⟩;have hb':fH ei.2 T' (aS6 n z) ps.toList=some es:=by
  rw[nK ps.toList _ (λx hx=>mO hT x.2 (by rw[hop];simp only[Op.operands];exact aTq.2 ⟨x,hx,rfl⟩))];exact hb
 obtain⟨E',val,e1,e2,e3,e4,e5⟩:=GB ht ho hok hf hz hfit hs0 hn hsz hb' (id:=id) (by rw[hE,hH id z6];exact hid);have:=hn' E' val e2 e3 (by rw[e4,hE];rfl) e5;unfold Oper.wp execOp;rw[hop];simp only[aS4,e1,aS5,aS7];exact this
end
theorem Fr.perm{A B F':List Nat}{H H':aC}(h:Fr A F' H H')(hp:∀x,x∈A↔x∈B):Fr B F' H H':=
 ⟨h.len,λid h1 h2=>h.same id h1 (λh3=>h2 ((hp id).1 h3)),λid h1 h2=>(hp id).1 (h.ids id h1 h2)⟩
theorem Fr.set{F:List Nat}{H:aC}{i:Nat}{o:AObj}(hi:i∈F):Fr F F H (H.set i o):=
 ⟨z6,λid h1 h2=>by rw[aS0 (by rintro rfl;exact h2 hi)],λid h _=>h⟩
structure aAa(toks:List Tk)(ip:Nat)(s:PS)(f:vU)(gs:List vU)(F:List Nat)(H:aC)(is c:Nat)(R:List PV)(ids cid:List Nat)(cv:PV)(cells0 rest:List PV):Prop where
 h1:H[ip]? =some (.row [.slice (toks.map Tk.enc) .none, .int .i64 (s.pos:Nat), .msl is 0 (gs.length+1) c])
 h2:H[is]? =some (.row R)
 h3:R.length=c*3
 h4:gs.length+1<=c
 h5:c<=maxLen
 ch:oA H cv f.kids cid
 top:(R.drop (gs.length*3)).take 3= [.int .i64 f.kind, .str [],cv]
 eF:F=ip::is::(cid++ids)
 pop:eJ toks ip {s with stack:=gs} (ip::is::ids) (H.set ip (.row [.slice (toks.map Tk.enc) .none, .int .i64 (s.pos:Nat), .msl is 0 gs.length c]))
 apart:∀i∈cid,i∉ip::is::ids
 ne:ip≠is
 hR:cells0++ [.int .i64 f.kind, .str [],cv]++rest=R
 k1:mN H gs cells0 ids
 hi1:ip∉cid++ids
 hi2:is∉cid++ids
 hpos:s.pos<=toks.length
 hlim:toks.length<=iB
theorem eJ.split{toks:List Tk}{ip:Nat}{s:PS}{F:List Nat}{H:aC}{f:vU}{gs:List vU}(hp:eJ toks ip s F H)(hs:s.stack=f::gs):∃is c R ids cid cv cells0 rest,aAa toks ip s f gs F H is c R ids cid cv cells0 rest:=by
 obtain⟨is,c,cells,rest,ids,h1,h2,h3,h4,h5,rfl,hne,hi1,hi2,hpos,hlim⟩:=hp;rw[hs]at h1 h5;cases h5 with
 | @cons _ _ cells0 ids0 cid cv k1 k2 k3=>
  have hcl:=k1.len;have hi1':=hi1;have hi2':=hi2;rw[aTs,not_or]at hi1 hi2;refine⟨is,c,_,ids0,cid,cv,cells0,rest,⟨h1,h2,h3, ?_,h4,k2, ?_,rfl, ?_, ?_,hne,rfl,k1,hi1',hi2',hpos,hlim⟩⟩
  ·simp at h3;omega
  ·rw[<-hcl,aUa,List.drop_left];simp
  ·refine⟨is,c,cells0,[.int .i64 f.kind, .str [],cv]++rest,ids0, ?_, ?_, ?_,h4,k1.fr λi hi=> ?_,rfl,hne,hi1.2,hi2.2,hpos,hlim⟩
   ·rw[aSz (lG h1)]
   ·rw[aS0 hne,h2,aUa]
   ·rw[<-aUa];exact h3
   ·rw[aS0 (by rintro rfl;exact hi1.2 hi)]
  ·intro i hi hm;rcases aTv.1 hm with rfl|hm
   ·exact hi1.1 hi
   ·rcases aTv.1 hm with rfl|hm
    ·exact hi2.1 hi
    ·exact k3 i hi hm
theorem oA.cell{H:aC}{cv:PV}{kids:List St}{cid:List Nat}(h:oA H cv kids cid):cv.drop1.isCell=true/\cv.drop1.drop1=cv.drop1/\cv.drop1.drop0=cv.drop1:=by
 cases h with
 |nil=>exact⟨rfl,rfl,rfl⟩
 |msl=>exact⟨rfl,rfl,rfl⟩
theorem AW{s s':PS}(h:qY s=some s'):∃f gs,s.stack=f::gs/\qQ ⟨f.kind,[],f.kids⟩ {s with stack:=gs}=some s':=by
 unfold qY at h
 split at h
 ·rename_i f g fs hs;exact⟨f,g::fs,hs,h⟩
 ·cases h
theorem aIg{toks:List Tk}{ip:Nat}{s s':PS}{F:List Nat}{H:aC}{k:Int}{kids:List St}{cid:List Nat}{cv:PV}(hm:qQ ⟨k,[],kids⟩ s=some s')(hp:eJ toks ip s F H)(hc:oA H cv kids cid)(hd:∀i∈cid,i∉F)(L:aC):
  aN Tryz.prog 166 [.optr ip 0, .agg [.int .i64 k, .str [],cv.drop1]] (H++L) λr H'=>r= .tup []/\∃F',eJ toks ip s' F' H'/\Fr (cid++F) F' (H++L) H':=
 aPh hm (hp.app L) (hc.fr λi hi=>aSv (hc.lt i hi)) hd
theorem sM{toks:List Tk}{ip is pos:Nat}{fl:Bool}{st:List vU}{cells:List PV}{ids:List Nat}{H H3:aC}{k:Int}{kids':List St}{cv':PV}{is' c1:Nat}{rest':List PV}{cid':List Nat}
  (h1:ip<H.length) (h2:is<H.length) (h5:mN H st cells ids) (hne:ip≠is) (hi1:ip∉ids) (hi2:is∉ids) (hpos:pos<=toks.length) (hlim:toks.length<=iB)
  (e1:H3[ip]? =some (.row [.slice (toks.map Tk.enc) .none, .int .i64 (pos:Nat), .msl is' 0 (st.length+1) c1])) (e2:H3[is']? =some (.row (cells++ [.int .i64 k, .str [],cv']++rest'))) (e3:(st.length+1)*3+rest'.length=c1*3) (e4:c1<=maxLen)
  (same:∀j,j<H.length->j≠ip->j≠is->H3[j]? =H[j]?) (hl:H.length<=H3.length) (his:is'=is\/H.length<=is') (hc:oA H3 cv' kids' cid') (hcid:∀i∈cid',H.length<=i/\i≠is'):
  ∃F',eJ toks ip ⟨pos,⟨k,kids'⟩::st,fl⟩ F' H3/\Fr (ip::is::ids) F' H H3:=by
 have hcl:=h5.len;have hn1:ip≠is':=by exact his.elim (λh=>h▸hne) (λh=>z8)
 have hn2:is'∉ids:=by
  rcases his with rfl|h
  ·exact hi2
  ·intro hm;have:=h5.lt _ hm;omega
 have hc1:∀i∈cid',i∉ids:=λi hi hm=>by have:=h5.lt _ hm;have:=(hcid i hi).1;omega
 refine⟨ip::is'::(cid'++ids),⟨is',c1,cells++ [.int .i64 k, .str [],cv'],rest',cid'++ids,e1,e2, ?_,e4, ?_,rfl,hn1, ?_, ?_,hpos,hlim⟩,hl, ?_, ?_⟩
 ·simp[hcl];omega
 ·exact mN.cons (f:=⟨k,kids'⟩) (h5.fr λi hi=>same i (h5.lt i hi) (by rintro rfl;exact hi1 hi) (by rintro rfl;exact hi2 hi)) hc hc1
 ·rw[aTs,not_or];exact⟨λh=>by have:=(hcid _ h).1;omega,hi1⟩
 ·rw[aTs,not_or];exact⟨λh=>(hcid _ h).2 rfl,hn2⟩
 ·intro j hj hn;simp only[aTv,not_or]at hn;exact same j hj hn.1 hn.2.1
 ·intro j hj hjl;simp only[aTv,aTs]at hj⊢;rcases hj with rfl|rfl|hj|hj
  ·exact .inl rfl
  ·rcases his with rfl|h
   ·exact .inr (.inl rfl)
   ·omega
  ·have:=(hcid _ hj).1;omega
  ·exact .inr (.inr hj)
theorem pI{n c:Nat}{rest:List PV}(h:n*3+rest.length=c*3):(rest= []/\c=n)\/∃x y z r,rest=x::y::z::r/\n+1<=c/\(n+1)*3+r.length=c*3:=by
 match rest,h with
 | [],h=>exact .inl ⟨rfl,by simp at h;omega⟩
 | [x],h=>simp at h;omega
 | [x,y],h=>simp at h;omega
 |x::y::z::r,h=>exact .inr ⟨x,y,z,r,rfl,by simp at h;omega,by simp at h;omega⟩
theorem bG{P:Program}{N nb:Nat}{Q:dG}{c:Code}{T:aD}{H:aC}(I:aC->Prop)(hI:I H)(h:∀H',I H'->eA P N nb c Q T H'):eA P N nb c Q T H:=h H hI
theorem AF{t:St}{s s':PS}(h:qQ t s=some s'):s'.flag=s.flag:=by
 unfold qQ at h
 split at h
 ·cases h
 ·split at h
  ·cases h;rfl
  ·cases h
theorem iW{s s':PS}(h:qY s=some s'):s'.flag=s.flag:=by
 obtain⟨f,gs,_,ha⟩:=AW h;have:=AF ha;exact this
theorem AR{k:Int}{s s1:PS}(h:SY k s=some s1):s.stack.length<iB/\s1=⟨s.pos,⟨k,[]⟩::s.stack,s.flag⟩:=by
 unfold SY at h
 split at h
 ·rename_i hl;cases h;exact⟨hl,rfl⟩
 ·cases h
theorem aAa.retop{toks:List Tk}{ip:Nat}{s:PS}{f:vU}{gs:List vU}{F:List Nat}{H H3:aC}{is c:Nat}{R:List PV}{ids cid cid':List Nat}{cv cv':PV}{cells0 rest:List PV}{kids':List St}
  (sp:aAa toks ip s f gs F H is c R ids cid cv cells0 rest) (hl:H.length<=H3.length) (e2:H3[is]? =some (.row (R.set (gs.length*3+2) cv'))) (same:∀j,j<H.length->j≠is->j∉cid->H3[j]? =H[j]?)
  (hc:oA H3 cv' kids' cid') (hcid:∀i∈cid',i∈cid\/H.length<=i):eJ toks ip ⟨s.pos,⟨f.kind,kids'⟩::gs,s.flag⟩ (ip::is::(cid'++ids)) H3/\Fr F (ip::is::(cid'++ids)) H H3:=by
 rw[sp.eF];exact LF sp.h1 sp.hR sp.h3 sp.h5 sp.k1 (λi hi hm=>sp.apart i hi (by simp[hm])) sp.ne sp.hi1 sp.hi2 (lG sp.h2) sp.hpos sp.hlim hl e2 same hc hcid
theorem FX{k:Int}{s s1:PS}(h:sG k s=some s1):∃(f:vU) (gs:List vU) (ks:List St) (x:St) (sm:PS),s.stack=f::gs/\f.kids=ks++ [x]/\sm=⟨s.pos,⟨f.kind,ks⟩::gs,s.flag⟩/\s1=⟨sm.pos,⟨k,[x]⟩::sm.stack,sm.flag⟩/\sm.stack.length<iB:=by
 unfold sG at h
 split at h
 ·cases h
 ·rename_i f gs hs
  split at h
  ·rename_i hc
   split at h
   ·cases h
   ·rename_i x hx;cases h;refine⟨f,gs,f.kids.dropLast,x,_,hs, ?_,rfl,rfl,by rw[hs]at hc;exact hc⟩;have hne:f.kids≠ []:=by intro e;rw[e]at hx;cases hx
    rw[List.getLast?_eq_some_getLast hne]at hx;injection hx with hx;rw[<-hx];exact(List.dropLast_concat_getLast hne).symm
  ·cases h
theorem oA.msl_inv{H:aC}{cv:PV}{ks:List St}{x:St}{cid:List Nat}(h:oA H cv (ks++ [x]) cid):∃ic c rest,cv= .msl ic 0 (ks.length+1) c/\cid= [ic]/\H[ic]? =some (.row (aH (ks.map St.enc)++(x.enc.cells++rest)))/\(ks.length+1)*3+rest.length=c*3/\c<=maxLen:=by
 generalize hk:ks++ [x]=kk at h;cases h with
 |nil=>simp at hk
 | @msl ic c _ rest hH hc hm=>
  subst hk;refine⟨ic,c,rest,z6,rfl, ?_,by simpa using hc,hm⟩;rw[hH,List.map_append,cN,aUa];simp[aH]
theorem sH(toks:List Tk)(ip:Nat):FN Tryz.prog toks ip 155 [.optr ip 0] qY cM:=by
 intro s s' F0 H0 hm p0;have f0:=Fr.refl F0 H0;obtain⟨st0,r0⟩:=p0.row;have q0:=aA r0;have hl:=aV p0.len;obtain⟨f,gs,hs,ha⟩:=AW hm;obtain⟨is,c,R,ids,cid,cv,cells0,rest,h1,h2,h3,h4,h5,hch,htop,hF,hpop,hap,hne,_,_,_,_,_,_⟩:=p0.split hs;have hmx:maxLen=9223372036854775807:=z7
 have hip:=lG h1;have his:=lG h2;have q1:=aA h1;have q2:=aA h2;have gw:IntKind.i64.wrap (((gs.length+1:Nat):Int) -1)=((gs.length:Nat):Int):=by rw[aY z8 z8];omega
 have gi:=bS (n:=gs.length+1) (i:=gs.length) z8;have qs:∀L o,(H0++L).set ip o=H0.set ip o++L:=λL o=>XT hip;have gD:((R.drop (gs.length*3)).take 3).map PV.drop1= [.int .i64 f.kind, .str [],cv.drop1]:=by rw[htop];rfl
 have b3:(gs.length*3+3<=R.length)=True:=by simp;omega
 have hcl:=hch.cell.1;have hdd:=hch.cell.2.1;have hd0:=hch.cell.2.2;have n0:=p0.ne;have m0:=p0.neK;have qz:∀o L,(H0.set ip o++L)[H0.length]? =L[0]? :=λo L=>ap3 (k:=0);have hch2:oA (H0.set ip (.row [.slice (toks.map Tk.enc) .none, .int .i64 (s.pos:Nat), .msl is 0 gs.length c])) cv f.kids cid:=hch.fr λi hi=>by rw[aS0 (by rintro rfl;exact hap _ hi z6)]
 have fz:∀k,(is=H0.length+k)=False:=λk=>by simp;omega
 have fz0:(is=H0.length)=False:=by simp;omega
 refine aF (N:=29) Tryz.func155 rfl rfl z6 λhb'=> ?_;have x1:=a5 h1 h2 q1 q2 (a5 gw gi qs gD (a5 b3 hcl hdd hd0 (a5 fS fR n0 m0 (a3 qz fz fz0))));refine qE (a5 y3 nG dM gF (a2 tN x1)) ?_;refine qE (a5 nG dM gF tN x1) ?_;refine qL [0,2,3] (a2 tN x1) ?_;refine qT 6 (a5 nG dM gF tN x1) ?_;have x2:=a5 h1 h2 q1 q2 (a5 gw gi qs gD (a5 b3 hcl hdd hd0 (a5 fS fR n0 m0 (a3 qz fz fz0))));refine nR (id:=is) (n:=gs.length+1) (c:=c) (kk:=.i64) (k:=gs.length) (mL x2) rfl z7 z7 eB (fV x2) (fV x2) z8 ?_;refine qX (a5 nG dM gF tN x1) ?_;refine qT 2 (a3 dM tN x1) ?_;refine qN (a2 tN x1) (aIg ha hpop hch2 hap _) ?_;rintro _ H1 ⟨rfl,F1,p1,g1⟩;have f1:Fr F0 F1 H0 H1:=(Fr.set (F:=F0) (i:=ip) (by rw[hF];simp)).trans (g1.of_app.perm (λy=>by rw[hF];simp only[aTs,aTv];constructor<;>(intro hh;rcases hh with hh|hh|hh|hh<;>simp[hh])));refine dL ?_;exact⟨rfl,F1,p1,f1⟩
theorem cP(toks:List Tk)(ip:Nat)(k:Int)(f:FuncId)(pf pc:List PV)(hgo:aP Tryz.prog f=true){a:PS->Option PS}{rv:PS->PS->PV}{I:PS->List Nat->aC->Prop}(hI:Stb I)(hc:FC Tryz.prog toks ip f (pf++pc) a rv I):FC Tryz.prog toks ip 97 [.optr ip 0, .int .i64 k, .fn (.func f) pf pc] (cF k a) cM I:=by
 intro s s' F0 H0 hm p0 i0;obtain⟨s2,hm2,hfin⟩:=oB hm;obtain⟨s1,hopen,hact⟩:=oB hm2;obtain⟨hlt,rfl⟩:=AR hopen;obtain⟨is,c,cells,rest,ids,h1,h2,h3,h4,h5,hF,hne,hi1,hi2,hpos,hlim⟩:=p0;have hmx:maxLen=9223372036854775807:=z7
 have hip:=lG h1;have his:=lG h2;have hcl:=h5.len;have q1:=aA h1;have gi:=bS (n:=s.stack.length+1) (i:=s.stack.length) z8;have nip:∀k,(ip=H0.length+k)=False:=λk=>by simp;omega
 have nip0:(ip=H0.length)=False:=by simp;omega
 have nfi:∀k,(H0.length+k=ip)=False:=λk=>by simp;omega
 have nfi0:(H0.length=ip)=False:=by simp;omega
 have nb1:∀k,(ip==H0.length+k)=false:=λk=>by simp;omega
 have nb2:∀k,(H0.length+k==ip)=false:=λk=>by simp;omega
 have nb3:(ip==H0.length)=false:=by simp;omega
 have nb4:(H0.length==ip)=false:=by simp;omega
 have nis:∀k,(is=H0.length+k)=False:=λk=>by simp;omega
 have nis0:(is=H0.length)=False:=by simp;omega
 have nb5:(ip==is)=false:=by simpa using hne
 have nb6:(is==ip)=false:=by simpa using Ne.symm hne
 refine aF (N:=22) Tryz.func97 rfl rfl z6 λhb'=> ?_
 (rcases pI (n:=s.stack.length) (c:=c) (rest:=rest) (by rw[<-hcl,<-aTi];exact h3)with⟨hr1,hr2⟩| ⟨e1,e2,e3,rest1,hr1,hr2,hr3⟩)
 ·
  subst hr1 hr2;simp only[aT4]at h2 h3;have q2:=aA h2;refine wQ ?_;refine eK 0 (by kernel_rfl) ?_;refine gM 8 (bm:= [0,1,3,7,0,16,15,0,255,511,1023,511,2559,6655]) (by kernel_rfl) z7 (by kernel_rfl) (by kernel_rfl) ?_;have x1:=a5 h1 q1 gi fS (a5 fR nip nip0 nfi (a5 nfi0 nb1 nb2 nb3 (a5 nb4 nis nis0 nb5 nb6)));refine pX (a5 nG dM gF tN x1) ?_;refine kK (k:=8) (bm:= [0,1,3,7,0,16,15,0,255,511,1023,511,2559,6655]) (by kernel_rfl) rfl (by kernel_rfl) (by kernel_rfl) ?_;refine lN (n:=s.stack.length) (oc:=cells) (e1:=.agg [.int .i64 0, .str [], .slice [] .none]) (tl:=.full) (mL tN) rfl z7 z7 (fV tN) (by show _*48<=_;simp only[iB]at hlt;omega) (by simp only[iB]at hlt;omega) rfl eB (by rw[eB];rfl) tY rfl (λE v ho hE hv=>sE ho (cs:=cells) (by rw[hE];first|exact h2|exact q2 _) hcl hv) ?_;intro c1 rest1 hc1 hc2 hrest1;refine oN ?_;show kB _ _ _ _ _ _ _ _;obtain⟨RR,hRR⟩:∃RR,RR=cells++PV.cells (.agg [.int .i64 0, .str [], .slice [] .none])++rest1:=⟨_,rfl⟩;rw[<-hRR];have lr1:rest1.length=(c1- (s.stack.length+1))*3:=by rw[hrest1];simp[PV.cells]
  have lRR:RR.length=c1*3:=by rw[hRR];simp[PV.cells,lr1,hcl];omega
  have hb3:(s.stack.length*3+3<=c1*3)=True:=by simp;omega
  have qs:∀L o,(H0++L).set ip o=H0.set ip o++L:=λL o=>XT hip;refine gJ 5 (bm:= [0,1,3,7,0,16,15,0,255,511,1023,511,2559,6655]) (by kernel_rfl) z7 (by kernel_rfl) (by kernel_rfl) ?_;refine kU (bm:= [0,1,3,7,0,16,15,0,255,511,1023,511,2559,6655]) (fresh:=H0.length+7) (by kernel_rfl) (Zd (a5 nG dM gF h1 (a5 q1 gi fS fR (a5 nip nip0 nfi nfi0 (a5 nb1 nb2 nb3 nb4 (a5 nis nis0 nb5 nb6 (a3 hb3 lRR qs))))))) z7 ?_;refine fF ?_;refine bG (λH1=>∃F1,eJ toks ip ⟨s.pos,⟨k,[]⟩::s.stack,s.flag⟩ F1 H1/\Fr F0 F1 H0 H1) ?_ ?_
  ·rw[hF];exact sM hip his h5 hne hi1 hi2 hpos hlim (ap1 hip) (rest':=rest1) (is':=H0.length) (c1:=c1) ((ap3 (k:=0)).trans (by rw[hRR];refine congrArg (λz=>some (AObj.row z)) ?_;show List.set (List.set (List.set ((cells++ [_,_,_])++rest1) _ _) _ _) _ _=_;rw[aUa];exact zV hcl)) (by rw[lr1];omega) hc2 (λj hj hn _=>RX hj hn) z6 (.inr (aSl _)) .nil (λi hi=>by cases hi)
  rintro H1 ⟨F1,p1,f1⟩;refine qT 1 (a2 tN x1) ?_;refine qA (a2 tN x1) hgo (hc _ s2 F1 _ hact p1 (hI s _ _ _ _ _ rfl i0 f1)) ?_;rintro _ H2 ⟨rfl,F2,p2,g2,i2⟩;have f2:=f1.trans g2;refine oN ?_;refine qT 1 (a2 tN x1) ?_;refine qA (a2 tN x1) AS ((sH toks ip).ap0 hfin p2) ?_;rintro _ H3 ⟨rfl,F3,p3,g3⟩;refine oN ?_;refine dL ?_;exact⟨rfl,F3,p3,f2.trans g3,hI _ _ _ _ _ _ (iW hfin) i2 g3⟩
 ·
  subst hr1;refine wQ ?_;refine eK 0 (by kernel_rfl) ?_;refine gM 8 (bm:= [0,1,3,7,0,16,15,0,255,511,1023,511,2559,6655]) (by kernel_rfl) z7 (by kernel_rfl) (by kernel_rfl) ?_;have x2:=a5 h1 q1 gi fS (a5 fR nip nip0 nfi (a5 nfi0 nb1 nb2 nb3 (a5 nb4 nis nis0 nb5 nb6)));refine pX (a5 nG dM gF tN x2) ?_;refine kK (k:=8) (bm:= [0,1,3,7,0,16,15,0,255,511,1023,511,2559,6655]) (by kernel_rfl) rfl (by kernel_rfl) (by kernel_rfl) ?_;refine pN (id:=is) (n:=s.stack.length) (c:=c) (cs:=cells++e1::e2::e3::rest1) (e1:=.agg [.int .i64 0, .str [], .slice [] .none]) (tl:=.full) h2 (mL tN) rfl z7 z7 (fV tN) (fV tN) z8 (by simp[hcl];omega) rfl rfl eB (by rw[eB];rfl) ?_;refine oN ?_;show kB _ _ _ _ _ _ _ _;obtain⟨RR,hRR⟩:∃RR,RR=cY (cells++e1::e2::e3::rest1) (s.stack.length*3) (PV.cells (.agg [.int .i64 0, .str [], .slice [] .none])):=⟨_,rfl⟩;rw[<-hRR];have hRR2:RR=cells++PV.int .i64 0::PV.str []::PV.slice [] .none::rest1:=by rw[hRR];show cY _ _ [_,_,_]=_;simp only[cY];rw[zV hcl];simp
  have lRR:RR.length=c*3:=by rw[hRR2];simp[hcl];omega
  have hb3:(s.stack.length*3+3<=c*3)=True:=by simp;omega
  have q5:∀o,(H0.set is o)[is]? =some o:=λo=>aSz his;have q6:∀o,(H0.set is o)[ip]? =some (.row [.slice (toks.map Tk.enc) .none, .int .i64 (s.pos:Nat), .msl is 0 s.stack.length c]):=λo=>by rw[aS0 (Ne.symm hne)];exact h1
  have q7:∀o o2,(H0.set is o).set is o2=H0.set is o2:=λo o2=>aUe ..;refine gJ 5 (bm:= [0,1,3,7,0,16,15,0,255,511,1023,511,2559,6655]) (by kernel_rfl) z7 (by kernel_rfl) (by kernel_rfl) ?_;refine kU (bm:= [0,1,3,7,0,16,15,0,255,511,1023,511,2559,6655]) (fresh:=H0.length+7) (by kernel_rfl) (Zd (a5 nG dM gF h1 (a5 q1 gi fS fR (a5 nip nip0 nfi nfi0 (a5 nb1 nb2 nb3 nb4 (a5 nis nis0 nb5 nb6 (a5 hb3 lRR q5 q6 q7))))))) z7 ?_;refine fF ?_;refine bG (λH1=>∃F1,eJ toks ip ⟨s.pos,⟨k,[]⟩::s.stack,s.flag⟩ F1 H1/\Fr F0 F1 H0 H1) ?_ ?_
  ·rw[hF];exact sM hip his h5 hne hi1 hi2 hpos hlim (aSz (by simpa using hip)) (rest':=rest1) (is':=is) (c1:=c) (by rw[aS0 hne,aSz his,hRR2];refine congrArg (λz=>some (AObj.row z)) ?_;exact zV hcl) hr3 h4 (λj hj hn hn2=>by rw[aS0 (Ne.symm hn),aS0 (Ne.symm hn2)]) z6 (.inl rfl) .nil (λi hi=>by cases hi)
  rintro H1 ⟨F1,p1,f1⟩;refine qT 1 (a2 tN x2) ?_;refine qA (a2 tN x2) hgo (hc _ s2 F1 _ hact p1 (hI s _ _ _ _ _ rfl i0 f1)) ?_;rintro _ H2 ⟨rfl,F2,p2,g2,i2⟩;have f2:=f1.trans g2;refine oN ?_;refine qT 1 (a2 tN x2) ?_;refine qA (a2 tN x2) AS ((sH toks ip).ap0 hfin p2) ?_;rintro _ H3 ⟨rfl,F3,p3,g3⟩;refine oN ?_;refine dL ?_;exact⟨rfl,F3,p3,f2.trans g3,hI _ _ _ _ _ _ (iW hfin) i2 g3⟩
theorem pG(toks:List Tk)(ip:Nat)(k:Int)(f:FuncId)(pf pc:List PV)(hgo:aP Tryz.prog f=true){a:PS->Option PS}{rv:PS->PS->PV}{I:PS->List Nat->aC->Prop}(hI:Stb I)(hc:FC Tryz.prog toks ip f (pf++pc) a rv I):FC Tryz.prog toks ip 276 [.optr ip 0, .int .i64 k, .fn (.func f) pf pc] (iP k a) cM I:=by
 intro s s' F0 H0 hm p0 i0;obtain⟨s2,hm2,hfin⟩:=oB hm;obtain⟨s1,hopen,hact⟩:=oB hm2;obtain⟨f1,gs,ks,xl,sm,hs,hkids,hsm,rfl,hlt⟩:=FX hopen;obtain⟨is0,c0,R0,ids0,cid0,cv0,cells00,rest0,sp⟩:=p0.split hs;have h1:=sp.h1;have h2:=sp.h2;have h3:=sp.h3;have h4:=sp.h4;have h5:=sp.h5;have hch:=sp.ch;rw[hkids]at hch;obtain⟨ic,cc,crest,hcv,hcid,hic,hcc,hccm⟩:=hch.msl_inv;have hmx:maxLen=9223372036854775807:=z7
 have hip:=lG h1;have his:=lG h2;have hicl:=lG hic;have q1:=aA h1;have q2:=aA h2;have gw:IntKind.i64.wrap (((gs.length+1:Nat):Int) -1)=((gs.length:Nat):Int):=by rw[aY z8 z8];omega
 have gi:=bS (n:=gs.length+1) (i:=gs.length) z8;have gw2:IntKind.i64.wrap (((ks.length+1:Nat):Int) -1)=((ks.length:Nat):Int):=by rw[aY z8 z8];omega
 have gi2:=bS (n:=ks.length+1) (i:=ks.length) z8;obtain⟨RC,hRC⟩:∃RC,RC=aH (ks.map St.enc)++(xl.enc.cells++crest):=⟨_,rfl⟩;rw[<-hRC]at hic;have q3:=aA hic;have gRC:((RC.drop (ks.length*3)).take 3).map PV.drop1= [.int .i64 xl.kind, .str xl.text, .slice (xl.ch.map St.enc) .none]:=by rw[hRC,<-cG ks,List.drop_left,St.enc_cells];rfl
 have bRC:(ks.length*3+3<=RC.length)=True:=by rw[hRC];simp[cG,St.enc_cells]
 have gR2:R0[gs.length*3+2]? =some (.msl ic 0 (ks.length+1) cc):=by
  have:=congrArg (λz=>z[2]?) sp.top;simp only[List.getElem?_take,List.getElem?_drop]at this;rw[<-hcv];simpa using this
 have bR2:(gs.length*3+2+1<=R0.length)=True:=by simp;omega
 have qs:∀L o,(H0++L).set is0 o=H0.set is0 o++L:=λL o=>XT his;have nis:∀k,(is0=H0.length+k)=False:=λk=>by simp;omega
 have nis0:(is0=H0.length)=False:=by simp;omega
 have nic:ic≠is0:=λe=>sp.hi2 (by rw[hcid];simp[e]);refine aF (N:=60) Tryz.func276 rfl rfl z6 λhb'=> ?_;refine wQ ?_;refine dA (by kernel_rfl) ?_;have x1:=a5 h1 h2 q1 q2 (a5 hic q3 gw gi (a5 gw2 gi2 gRC bRC (a5 gR2 bR2 qs nis nis0)));refine pX (a5 y3 nG dM gF (a2 tN x1)) ?_;refine qE (a5 y3 nG dM tN x1) ?_;refine qL [0,1,2,6,7] (a2 tN x1) ?_;refine qE (a4 nG dM tN x1) ?_;refine qT 6 (a4 nG dM tN x1) ?_;have x2:=a5 h1 h2 q1 q2 (a5 hic q3 gw gi (a5 gw2 gi2 gRC bRC (a5 gR2 bR2 qs nis nis0)));refine nR (id:=ic) (n:=ks.length+1) (c:=cc) (kk:=.i64) (k:=ks.length) (mL x2) rfl z7 z7 eB (fV x2) (fV x2) z8 ?_;refine qX (a4 nG dM tN x1) ?_;refine qL [0,1,2,8] (a2 tN x1) ?_;refine bG (λH1=>∃F1,eJ toks ip sm F1 H1/\Fr F0 F1 H0 H1/\H1[H0.length]? =some (.row [.int .i64 xl.kind, .str xl.text, .slice (xl.ch.map St.enc) .none])/\H0.length∉F1) ?_ ?_
 ·obtain⟨k1,k2⟩:=sp.retop (H3:=H0.set is0 (.row (R0.set (gs.length*3+2) (.msl ic 0 ks.length cc)))++ [.row [.int .i64 xl.kind, .str xl.text, .slice (xl.ch.map St.enc) .none]]) (kids':=ks) (cid':= [ic]) z6 (ap1 his) (λj hj hn _=>RX hj hn) (.of (rest:=xl.enc.cells++crest) rfl (by rw[RX hicl nic,hic,hRC]) (by simp[St.enc_cells];omega) hccm) (λi hi=>.inl (by rw[hcid];exact hi));refine⟨_,by rw[hsm];exact k1,k2,ap3 (k:=0),λh=> ?_⟩;have hF:=sp.eF;rw[<-hcid]at h;rw[<-hF]at h;exact p0.new0 h
 rintro H1 ⟨F1,p1,f1',hbx,hbn⟩;obtain⟨is,c,cells,rest,ids,h1,h2,h3,h4,h5,hF,hne,hi1,hi2,hpos,hlim⟩:=p1;have hmx:maxLen=9223372036854775807:=z7
 have hip:=lG h1;have his:=lG h2;have hcl:=h5.len;have q1:=aA h1;have gi:=bS (n:=sm.stack.length+1) (i:=sm.stack.length) z8;have nip:∀k,(ip=H1.length+k)=False:=λk=>by simp;omega
 have nip0:(ip=H1.length)=False:=by simp;omega
 have nfi:∀k,(H1.length+k=ip)=False:=λk=>by simp;omega
 have nfi0:(H1.length=ip)=False:=by simp;omega
 have nb1:∀k,(ip==H1.length+k)=false:=λk=>by simp;omega
 have nb2:∀k,(H1.length+k==ip)=false:=λk=>by simp;omega
 have nb3:(ip==H1.length)=false:=by simp;omega
 have nb4:(H1.length==ip)=false:=by simp;omega
 have nis:∀k,(is=H1.length+k)=False:=λk=>by simp;omega
 have nis0:(is=H1.length)=False:=by simp;omega
 have nb5:(ip==is)=false:=by simpa using hne
 have nb6:(is==ip)=false:=by simpa using Ne.symm hne
 have qbx:=aA hbx;have dxl:List.map PV.drop1 [PV.int .i64 xl.kind, .str xl.text, .slice (xl.ch.map St.enc) .none]= [PV.int .i64 xl.kind, .str xl.text, .slice (xl.ch.map St.enc) .none]:=rfl
 (rcases pI (n:=sm.stack.length) (c:=c) (rest:=rest) (by rw[<-hcl,<-aTi];exact h3)with⟨hr1,hr2⟩| ⟨e1,e2,e3,rest1,hr1,hr2,hr3⟩)
 ·
  subst hr1 hr2;simp only[aT4]at h2 h3;have q2:=aA h2;refine wQ ?_;refine eK 1 (by kernel_rfl) ?_;refine gJ 10 (bm:= [0,1,3,7,0,0,32,112,15,0,1023,2047,4095,2047,10239,26623]) (by kernel_rfl) z7 (by kernel_rfl) (by kernel_rfl) ?_;have x3:=a5 h1 q1 hbx qbx (a5 gi fS fR nip (a5 nip0 nfi nfi0 nb1 (a5 nb2 nb3 nb4 nis (a5 nis0 nb5 nb6 dxl iT))));refine tF 6 (bm:= [0,1,3,7,0,0,32,112,15,0,1023,2047,4095,2047,10239,26623]) (fresh:=H1.length+7) (by kernel_rfl) (Zd (a4 nG dM gF x3)) z7 z7 ?_;refine SJ (bm:= [0,1,3,7,0,0,32,112,15,0,1023,2047,4095,2047,10239,26623]) H1.length (t:=65) (n:=1) (es:= [xl.enc]) (by kernel_rfl) z6 (by simp only[kC,seval,aB,qC,h1,q1,hbx,qbx,gi,tN,fS,fR,nip,nip0,nfi,nfi0,nb1,nb2,nb3,nb4,nis,nis0,nb5,nb6,dxl,if_true]) rfl z7 eB tY rfl z7 z7 z7 (by simp only[kC,seval,aB,qC,h1,q1,hbx,qbx,gi,tN,fS,fR,nip,nip0,nfi,nfi0,nb1,nb2,nb3,nb4,nis,nis0,nb5,nb6,dxl,if_true,fH,dM]<;>first|done|rfl) (by simp only[jD,jO,jN,seval,aB,qC,h1,q1,hbx,qbx,gi,tN,fS,fR,nip,nip0,nfi,nfi0,nb1,nb2,nb3,nb4,nis,nis0,nb5,nb6,dxl,if_true]<;>first|done|rfl) ?_;rw[show ∀o,(H1++ [AObj.unborn]).set H1.length o=H1++ [o]from λo=>z6];refine kU (bm:= [0,1,3,7,0,0,32,112,15,0,1023,2047,4095,2047,10239,26623]) (fresh:=H1.length+7) (by kernel_rfl) (Zd (a3 nG dM x3)) z7 ?_;refine kK (k:=10) (bm:= [0,1,3,7,0,0,32,112,15,0,1023,2047,4095,2047,10239,26623]) (by kernel_rfl) rfl (by kernel_rfl) (by kernel_rfl) ?_;refine lN (n:=sm.stack.length) (oc:=cells) (e1:=.agg [.int .i64 0, .str [], .slice [] .none]) (tl:=.full) (mL tN) rfl z7 z7 (fV tN) (by show _*48<=_;simp only[iB]at hlt;omega) (by simp only[iB]at hlt;omega) rfl eB (by rw[eB];rfl) tY rfl (λE v ho hE hv=>sE ho (cs:=cells) (by rw[hE];first|exact h2|exact q2 _) hcl hv) ?_;intro c1 rest1 hc1 hc2 hrest1;refine oN ?_;show kB _ _ _ _ _ _ _ _;obtain⟨RR,hRR⟩:∃RR,RR=cells++PV.cells (.agg [.int .i64 0, .str [], .slice [] .none])++rest1:=⟨_,rfl⟩;rw[<-hRR];have lr1:rest1.length=(c1- (sm.stack.length+1))*3:=by rw[hrest1];simp[PV.cells]
  have lRR:RR.length=c1*3:=by rw[hRR];simp[PV.cells,lr1,hcl];omega
  have hb3:(sm.stack.length*3+3<=c1*3)=True:=by simp;omega
  have qs:∀L o,(H1++L).set ip o=H1.set ip o++L:=λL o=>XT hip;refine gJ 5 (bm:= [0,1,3,7,0,0,32,112,15,0,1023,2047,4095,2047,10239,26623]) (by kernel_rfl) z7 (by kernel_rfl) (by kernel_rfl) ?_;refine kU (bm:= [0,1,3,7,0,0,32,112,15,0,1023,2047,4095,2047,10239,26623]) (fresh:=H1.length+7) (by kernel_rfl) (Zd (a5 nG dM gF hb3 (a3 lRR qs x3))) z7 ?_;refine fF ?_;refine bG (λH2=>∃F2,eJ toks ip ⟨sm.pos,⟨k,[xl]⟩::sm.stack,sm.flag⟩ F2 H2/\Fr F1 F2 H1 H2) ?_ ?_
  ·rw[hF];exact sM hip his h5 hne hi1 hi2 hpos hlim (ap1 hip) (rest':=rest1) (is':=H1.length+1) (c1:=c1) (ap3.trans (by rw[hRR];refine congrArg (λz=>some (AObj.row z)) ?_;show List.set (List.set (List.set ((cells++ [_,_,_])++rest1) _ _) _ _) _ _=_;rw[aUa];exact zV hcl)) (by rw[lr1];omega) hc2 (λj hj hn _=>RX hj hn) z6 (.inr z8) (.of (kids:= [xl]) (rest:= []) rfl ((ap3 (k:=0)).trans (by simp[aH])) rfl (by show 1<=maxLen;decide)) (cid':= [H1.length]) (λi hi=>by rw[aT2]at hi;subst hi;exact⟨aSl _,z8⟩)
  rintro H2 ⟨F2,p2,f2⟩;refine qT 1 (a2 tN x1) ?_;refine qA (a2 tN x1) hgo (hc _ s2 F2 _ hact p2 (hI s _ _ _ _ _ (by rw[hsm]) i0 (f1'.trans f2))) ?_;rintro _ H3 ⟨rfl,F3,p3,g3,i3⟩;have f3:=(f1'.trans f2).trans g3;refine oN ?_;refine qL [0] (a2 tN x1) ?_;refine qT 1 (a2 tN x1) ?_;refine qA (a2 tN x1) AS ((sH toks ip).ap0 hfin p3) ?_;rintro _ H4 ⟨rfl,F4,p4,g4⟩;refine oN ?_;refine dL ?_;exact⟨rfl,F4,p4,f3.trans g4,hI _ _ _ _ _ _ (iW hfin) i3 g4⟩
 ·
  subst hr1;refine wQ ?_;refine eK 1 (by kernel_rfl) ?_;refine gJ 10 (bm:= [0,1,3,7,0,0,32,112,15,0,1023,2047,4095,2047,10239,26623]) (by kernel_rfl) z7 (by kernel_rfl) (by kernel_rfl) ?_;have x4:=a5 h1 q1 hbx qbx (a5 gi fS fR nip (a5 nip0 nfi nfi0 nb1 (a5 nb2 nb3 nb4 nis (a5 nis0 nb5 nb6 dxl iT))));refine tF 6 (bm:= [0,1,3,7,0,0,32,112,15,0,1023,2047,4095,2047,10239,26623]) (fresh:=H1.length+7) (by kernel_rfl) (Zd (a4 nG dM gF x4)) z7 z7 ?_;refine SJ (bm:= [0,1,3,7,0,0,32,112,15,0,1023,2047,4095,2047,10239,26623]) H1.length (t:=65) (n:=1) (es:= [xl.enc]) (by kernel_rfl) z6 (by simp only[kC,seval,aB,qC,h1,q1,hbx,qbx,gi,tN,fS,fR,nip,nip0,nfi,nfi0,nb1,nb2,nb3,nb4,nis,nis0,nb5,nb6,dxl,if_true]) rfl z7 eB tY rfl z7 z7 z7 (by simp only[kC,seval,aB,qC,h1,q1,hbx,qbx,gi,tN,fS,fR,nip,nip0,nfi,nfi0,nb1,nb2,nb3,nb4,nis,nis0,nb5,nb6,dxl,if_true,fH,dM]<;>first|done|rfl) (by simp only[jD,jO,jN,seval,aB,qC,h1,q1,hbx,qbx,gi,tN,fS,fR,nip,nip0,nfi,nfi0,nb1,nb2,nb3,nb4,nis,nis0,nb5,nb6,dxl,if_true]<;>first|done|rfl) ?_;rw[show ∀o,(H1++ [AObj.unborn]).set H1.length o=H1++ [o]from λo=>z6];refine kU (bm:= [0,1,3,7,0,0,32,112,15,0,1023,2047,4095,2047,10239,26623]) (fresh:=H1.length+7) (by kernel_rfl) (Zd (a3 nG dM x4)) z7 ?_;refine kK (k:=10) (bm:= [0,1,3,7,0,0,32,112,15,0,1023,2047,4095,2047,10239,26623]) (by kernel_rfl) rfl (by kernel_rfl) (by kernel_rfl) ?_;refine pN (id:=is) (n:=sm.stack.length) (c:=c) (cs:=cells++e1::e2::e3::rest1) (e1:=.agg [.int .i64 0, .str [], .slice [] .none]) (tl:=.full) (aA h2 _) (mL tN) rfl z7 z7 (fV tN) (fV tN) z8 (by simp[hcl];omega) rfl rfl eB (by rw[eB];rfl) ?_;refine oN ?_;show kB _ _ _ _ _ _ _ _;obtain⟨RR,hRR⟩:∃RR,RR=cY (cells++e1::e2::e3::rest1) (sm.stack.length*3) (PV.cells (.agg [.int .i64 0, .str [], .slice [] .none])):=⟨_,rfl⟩;rw[<-hRR,XT his];have hRR2:RR=cells++PV.int .i64 0::PV.str []::PV.slice [] .none::rest1:=by rw[hRR];show cY _ _ [_,_,_]=_;simp only[cY];rw[zV hcl];simp
  have lRR:RR.length=c*3:=by rw[hRR2];simp[hcl];omega
  have hb3:(sm.stack.length*3+3<=c*3)=True:=by simp;omega
  have q5:∀o L,(H1.set is o++L)[is]? =some o:=λo L=>ap1 his;have q6:∀o L,(H1.set is o++L)[ip]? =some (.row [.slice (toks.map Tk.enc) .none, .int .i64 (sm.pos:Nat), .msl is 0 sm.stack.length c]):=λo L=>by rw[RX hip hne];exact h1
  have q7:∀o o2 L,(H1.set is o++L).set is o2=H1.set is o2++L:=λo o2 L=>ap4 his;have q8:∀o o2 L,(H1.set is o++L).set ip o2=(H1.set is o).set ip o2++L:=λo o2 L=>ap5 hip;refine gJ 5 (bm:= [0,1,3,7,0,0,32,112,15,0,1023,2047,4095,2047,10239,26623]) (by kernel_rfl) z7 (by kernel_rfl) (by kernel_rfl) ?_;refine kU (bm:= [0,1,3,7,0,0,32,112,15,0,1023,2047,4095,2047,10239,26623]) (fresh:=H1.length+7) (by kernel_rfl) (Zd (a5 nG dM gF hb3 (a5 lRR q5 q6 q7 (a2 q8 x4)))) z7 ?_;refine fF ?_;refine bG (λH2=>∃F2,eJ toks ip ⟨sm.pos,⟨k,[xl]⟩::sm.stack,sm.flag⟩ F2 H2/\Fr F1 F2 H1 H2) ?_ ?_
  ·rw[hF];exact sM hip his h5 hne hi1 hi2 hpos hlim (ap8 hip) (rest':=rest1) (is':=is) (c1:=c) ((ap7 hip his hne).trans (by rw[hRR2];refine congrArg (λz=>some (AObj.row z)) ?_;exact zV hcl)) hr3 h4 (λj hj hn hn2=>ap9 hj hn2 hn) z6 (.inl rfl) (.of (kids:= [xl]) (rest:= []) rfl ((aRd (k:=0)).trans (by simp[aH])) rfl (by show 1<=maxLen;decide)) (cid':= [H1.length]) (λi hi=>by rw[aT2]at hi;subst hi;exact⟨aSl _,z8⟩)
  rintro H2 ⟨F2,p2,f2⟩;refine qT 1 (a2 tN x1) ?_;refine qA (a2 tN x1) hgo (hc _ s2 F2 _ hact p2 (hI s _ _ _ _ _ (by rw[hsm]) i0 (f1'.trans f2))) ?_;rintro _ H3 ⟨rfl,F3,p3,g3,i3⟩;have f3:=(f1'.trans f2).trans g3;refine oN ?_;refine qL [0] (a2 tN x1) ?_;refine qT 1 (a2 tN x1) ?_;refine qA (a2 tN x1) AS ((sH toks ip).ap0 hfin p3) ?_;rintro _ H4 ⟨rfl,F4,p4,g4⟩;refine oN ?_;refine dL ?_;exact⟨rfl,F4,p4,f3.trans g4,hI _ _ _ _ _ _ (iW hfin) i3 g4⟩
theorem Fr.wk{F F':List Nat}{H H':aC}(a:Fr F F' H H')(X:List Nat):Fr (X++F) (X++F') H H':=
 ⟨a.len,λid h1 h2=>a.same id h1 λh=>h2 (List.mem_append_right _ h),λid hm h1=>(aTs.1 hm).elim (λh=>aUg _ h) λh=>List.mem_append_right _ (a.ids id h h1)⟩
def FCX(X:List Nat)(P:Program)(toks:List Tk)(ip:Nat)(f:FuncId)(args:List PV)(m:PS->Option PS)(rv:PS->PS->PV)(I:PS->List Nat->aC->Prop):Prop:=
 ∀(s s':PS) (F:List Nat) (H:aC),m s=some s'->eJ toks ip s F H->I s F H->aN P f args H λr H'=>r=rv s s'/\∃F',eJ toks ip s' F' H'/\Fr (X++F) (X++F') H H'/\I s' F' H'
theorem FC.toX{P:Program}{toks:List Tk}{ip:Nat}{f:FuncId}{args:List PV}{m:PS->Option PS}{rv:PS->PS->PV}{I:PS->List Nat->aC->Prop}(h:FC P toks ip f args m rv I)(X:List Nat):FCX X P toks ip f args m rv I:=
 λs s' F H hm hp hi=>(h s s' F H hm hp hi).mono λr H' ⟨h1,F',h2,h3,h4⟩=>⟨h1,F',h2,h3.wk X,h4⟩
theorem Fr.unwk{F F' X:List Nat}{H H':aC}(a:Fr (X++F) (X++F') H H')(hX:∀i∈X,H.length<=i):Fr F F' H H':=
 ⟨a.len,λid h1 h2=>a.same id h1 λh=>(aTs.1 h).elim (λh=>absurd (hX id h) z8) h2,λid hm h1=>(aTs.1 (a.ids id (List.mem_append_right _ hm) h1)).elim (λh=>absurd (hX id h) z8) λh=>h⟩
theorem aEg(X:List Nat)(toks:List Tk)(ip:Nat)(k:Int)(f:FuncId)(pf pc:List PV)(hgo:aP Tryz.prog f=true){a:PS->Option PS}{rv:PS->PS->PV}{I:PS->List Nat->aC->Prop}(hI:Stb I)(hc:FCX X Tryz.prog toks ip f (pf++pc) a rv I):FCX X Tryz.prog toks ip 97 [.optr ip 0, .int .i64 k, .fn (.func f) pf pc] (cF k a) cM I:=by
 intro s s' F0 H0 hm p0 i0;obtain⟨s2,hm2,hfin⟩:=oB hm;obtain⟨s1,hopen,hact⟩:=oB hm2;obtain⟨hlt,rfl⟩:=AR hopen;obtain⟨is,c,cells,rest,ids,h1,h2,h3,h4,h5,hF,hne,hi1,hi2,hpos,hlim⟩:=p0;have hmx:maxLen=9223372036854775807:=z7
 have hip:=lG h1;have his:=lG h2;have hcl:=h5.len;have q1:=aA h1;have gi:=bS (n:=s.stack.length+1) (i:=s.stack.length) z8;have nip:∀k,(ip=H0.length+k)=False:=λk=>by simp;omega
 have nip0:(ip=H0.length)=False:=by simp;omega
 have nfi:∀k,(H0.length+k=ip)=False:=λk=>by simp;omega
 have nfi0:(H0.length=ip)=False:=by simp;omega
 have nb1:∀k,(ip==H0.length+k)=false:=λk=>by simp;omega
 have nb2:∀k,(H0.length+k==ip)=false:=λk=>by simp;omega
 have nb3:(ip==H0.length)=false:=by simp;omega
 have nb4:(H0.length==ip)=false:=by simp;omega
 have nis:∀k,(is=H0.length+k)=False:=λk=>by simp;omega
 have nis0:(is=H0.length)=False:=by simp;omega
 have nb5:(ip==is)=false:=by simpa using hne
 have nb6:(is==ip)=false:=by simpa using Ne.symm hne
 refine aF (N:=22) Tryz.func97 rfl rfl z6 λhb'=> ?_
 (rcases pI (n:=s.stack.length) (c:=c) (rest:=rest) (by rw[<-hcl,<-aTi];exact h3)with⟨hr1,hr2⟩| ⟨e1,e2,e3,rest1,hr1,hr2,hr3⟩)
 ·
  subst hr1 hr2;simp only[aT4]at h2 h3;have q2:=aA h2;refine wQ ?_;refine eK 0 (by kernel_rfl) ?_;refine gM 8 (bm:= [0,1,3,7,0,16,15,0,255,511,1023,511,2559,6655]) (by kernel_rfl) z7 (by kernel_rfl) (by kernel_rfl) ?_;have x1:=a5 h1 q1 gi fS (a5 fR nip nip0 nfi (a5 nfi0 nb1 nb2 nb3 (a5 nb4 nis nis0 nb5 nb6)));refine pX (a5 nG dM gF tN x1) ?_;refine kK (k:=8) (bm:= [0,1,3,7,0,16,15,0,255,511,1023,511,2559,6655]) (by kernel_rfl) rfl (by kernel_rfl) (by kernel_rfl) ?_;refine lN (n:=s.stack.length) (oc:=cells) (e1:=.agg [.int .i64 0, .str [], .slice [] .none]) (tl:=.full) (mL tN) rfl z7 z7 (fV tN) (by show _*48<=_;simp only[iB]at hlt;omega) (by simp only[iB]at hlt;omega) rfl eB (by rw[eB];rfl) tY rfl (λE v ho hE hv=>sE ho (cs:=cells) (by rw[hE];first|exact h2|exact q2 _) hcl hv) ?_;intro c1 rest1 hc1 hc2 hrest1;refine oN ?_;show kB _ _ _ _ _ _ _ _;obtain⟨RR,hRR⟩:∃RR,RR=cells++PV.cells (.agg [.int .i64 0, .str [], .slice [] .none])++rest1:=⟨_,rfl⟩;rw[<-hRR];have lr1:rest1.length=(c1- (s.stack.length+1))*3:=by rw[hrest1];simp[PV.cells]
  have lRR:RR.length=c1*3:=by rw[hRR];simp[PV.cells,lr1,hcl];omega
  have hb3:(s.stack.length*3+3<=c1*3)=True:=by simp;omega
  have qs:∀L o,(H0++L).set ip o=H0.set ip o++L:=λL o=>XT hip;refine gJ 5 (bm:= [0,1,3,7,0,16,15,0,255,511,1023,511,2559,6655]) (by kernel_rfl) z7 (by kernel_rfl) (by kernel_rfl) ?_;refine kU (bm:= [0,1,3,7,0,16,15,0,255,511,1023,511,2559,6655]) (fresh:=H0.length+7) (by kernel_rfl) (Zd (a5 nG dM gF h1 (a5 q1 gi fS fR (a5 nip nip0 nfi nfi0 (a5 nb1 nb2 nb3 nb4 (a5 nis nis0 nb5 nb6 (a3 hb3 lRR qs))))))) z7 ?_;refine fF ?_;refine bG (λH1=>∃F1,eJ toks ip ⟨s.pos,⟨k,[]⟩::s.stack,s.flag⟩ F1 H1/\Fr F0 F1 H0 H1) ?_ ?_
  ·rw[hF];exact sM hip his h5 hne hi1 hi2 hpos hlim (ap1 hip) (rest':=rest1) (is':=H0.length) (c1:=c1) ((ap3 (k:=0)).trans (by rw[hRR];refine congrArg (λz=>some (AObj.row z)) ?_;show List.set (List.set (List.set ((cells++ [_,_,_])++rest1) _ _) _ _) _ _=_;rw[aUa];exact zV hcl)) (by rw[lr1];omega) hc2 (λj hj hn _=>RX hj hn) z6 (.inr (aSl _)) .nil (λi hi=>by cases hi)
  rintro H1 ⟨F1,p1,f1⟩;refine qT 1 (a2 tN x1) ?_;refine qA (a2 tN x1) hgo (hc _ s2 F1 _ hact p1 (hI s _ _ _ _ _ rfl i0 f1)) ?_;rintro _ H2 ⟨rfl,F2,p2,g2,i2⟩;have f2:=(f1.wk X).trans g2;refine oN ?_;refine qT 1 (a2 tN x1) ?_;refine qA (a2 tN x1) AS ((sH toks ip).ap0 hfin p2) ?_;rintro _ H3 ⟨rfl,F3,p3,g3⟩;refine oN ?_;refine dL ?_;exact⟨rfl,F3,p3,f2.trans (g3.wk X),hI _ _ _ _ _ _ (iW hfin) i2 g3⟩
 ·
  subst hr1;refine wQ ?_;refine eK 0 (by kernel_rfl) ?_;refine gM 8 (bm:= [0,1,3,7,0,16,15,0,255,511,1023,511,2559,6655]) (by kernel_rfl) z7 (by kernel_rfl) (by kernel_rfl) ?_;have x2:=a5 h1 q1 gi fS (a5 fR nip nip0 nfi (a5 nfi0 nb1 nb2 nb3 (a5 nb4 nis nis0 nb5 nb6)));refine pX (a5 nG dM gF tN x2) ?_;refine kK (k:=8) (bm:= [0,1,3,7,0,16,15,0,255,511,1023,511,2559,6655]) (by kernel_rfl) rfl (by kernel_rfl) (by kernel_rfl) ?_;refine pN (id:=is) (n:=s.stack.length) (c:=c) (cs:=cells++e1::e2::e3::rest1) (e1:=.agg [.int .i64 0, .str [], .slice [] .none]) (tl:=.full) h2 (mL tN) rfl z7 z7 (fV tN) (fV tN) z8 (by simp[hcl];omega) rfl rfl eB (by rw[eB];rfl) ?_;refine oN ?_;show kB _ _ _ _ _ _ _ _;obtain⟨RR,hRR⟩:∃RR,RR=cY (cells++e1::e2::e3::rest1) (s.stack.length*3) (PV.cells (.agg [.int .i64 0, .str [], .slice [] .none])):=⟨_,rfl⟩;rw[<-hRR];have hRR2:RR=cells++PV.int .i64 0::PV.str []::PV.slice [] .none::rest1:=by rw[hRR];show cY _ _ [_,_,_]=_;simp only[cY];rw[zV hcl];simp
  have lRR:RR.length=c*3:=by rw[hRR2];simp[hcl];omega
  have hb3:(s.stack.length*3+3<=c*3)=True:=by simp;omega
  have q5:∀o,(H0.set is o)[is]? =some o:=λo=>aSz his;have q6:∀o,(H0.set is o)[ip]? =some (.row [.slice (toks.map Tk.enc) .none, .int .i64 (s.pos:Nat), .msl is 0 s.stack.length c]):=λo=>by rw[aS0 (Ne.symm hne)];exact h1
  have q7:∀o o2,(H0.set is o).set is o2=H0.set is o2:=λo o2=>aUe ..;refine gJ 5 (bm:= [0,1,3,7,0,16,15,0,255,511,1023,511,2559,6655]) (by kernel_rfl) z7 (by kernel_rfl) (by kernel_rfl) ?_;refine kU (bm:= [0,1,3,7,0,16,15,0,255,511,1023,511,2559,6655]) (fresh:=H0.length+7) (by kernel_rfl) (Zd (a5 nG dM gF h1 (a5 q1 gi fS fR (a5 nip nip0 nfi nfi0 (a5 nb1 nb2 nb3 nb4 (a5 nis nis0 nb5 nb6 (a5 hb3 lRR q5 q6 q7))))))) z7 ?_;refine fF ?_;refine bG (λH1=>∃F1,eJ toks ip ⟨s.pos,⟨k,[]⟩::s.stack,s.flag⟩ F1 H1/\Fr F0 F1 H0 H1) ?_ ?_
  ·rw[hF];exact sM hip his h5 hne hi1 hi2 hpos hlim (aSz (by simpa using hip)) (rest':=rest1) (is':=is) (c1:=c) (by rw[aS0 hne,aSz his,hRR2];refine congrArg (λz=>some (AObj.row z)) ?_;exact zV hcl) hr3 h4 (λj hj hn hn2=>by rw[aS0 (Ne.symm hn),aS0 (Ne.symm hn2)]) z6 (.inl rfl) .nil (λi hi=>by cases hi)
  rintro H1 ⟨F1,p1,f1⟩;refine qT 1 (a2 tN x2) ?_;refine qA (a2 tN x2) hgo (hc _ s2 F1 _ hact p1 (hI s _ _ _ _ _ rfl i0 f1)) ?_;rintro _ H2 ⟨rfl,F2,p2,g2,i2⟩;have f2:=(f1.wk X).trans g2;refine oN ?_;refine qT 1 (a2 tN x2) ?_;refine qA (a2 tN x2) AS ((sH toks ip).ap0 hfin p2) ?_;rintro _ H3 ⟨rfl,F3,p3,g3⟩;refine oN ?_;refine dL ?_;exact⟨rfl,F3,p3,f2.trans (g3.wk X),hI _ _ _ _ _ _ (iW hfin) i2 g3⟩
end Go.Abs
namespace Go.Proofs
open Go.Shelf
def Tryz.lays137_ren:Go.Shelf.Ren:=⟨fun|137=>136|217=>191|266=>248|n=>n,fun|9=>9|5=>5|3=>3|n=>n,fun|n=>n⟩
theorem Tryz.lays137:Go.Proofs.Lays.n137 Tryz.prog Tryz.lays137_ren:= {
 mixed:=by kernel_rfl
 f137:=Tryz.func136.trans (congrArg some (by kernel_rfl))
 f217:=Tryz.func191.trans (congrArg some (by kernel_rfl))
 f266:=Tryz.func248.trans (congrArg some (by kernel_rfl))
 t3:=Tryz.underlying3
 a3:=Tryz.isAgg3
 z3:=Tryz.sizeOf3
 v3:=Tryz.zeroValue3
 t5:=Tryz.underlying5
 a5:=Tryz.isAgg5
 z5:=Tryz.sizeOf5
 v5:=Tryz.zeroValue5
 t9:=Tryz.underlying9
 a9:=Tryz.isAgg9
 z9:=Tryz.sizeOf9
 v9:=Tryz.zeroValue9}
def Tryz.lays99_ren:Go.Shelf.Ren:=⟨fun|99=>127|206=>189|n=>n,fun|9=>9|4=>4|3=>3|n=>n,fun|n=>n⟩
theorem Tryz.lays99:Go.Proofs.Lays.n99 Tryz.prog Tryz.lays99_ren:= {
 mixed:=by kernel_rfl
 f99:=Tryz.func127.trans (congrArg some (by kernel_rfl))
 f206:=Tryz.func189.trans (congrArg some (by kernel_rfl))
 t3:=Tryz.underlying3
 a3:=Tryz.isAgg3
 z3:=Tryz.sizeOf3
 v3:=Tryz.zeroValue3
 t4:=Tryz.underlying4
 a4:=Tryz.isAgg4
 z4:=Tryz.sizeOf4
 v4:=Tryz.zeroValue4
 t9:=Tryz.underlying9
 a9:=Tryz.isAgg9
 z9:=Tryz.sizeOf9
 v9:=Tryz.zeroValue9}
def Tryz.lays157_ren:Go.Shelf.Ren:=⟨fun|157=>152|229=>217|199=>218|261=>263|311=>289|312=>290|n=>n,fun|9=>9|31=>96|3=>3|5=>5|4=>4|119=>242|0=>0|40=>244|152=>262|21=>21|154=>264|51=>217|141=>266|196=>295|193=>292|198=>298|49=>296|194=>293|201=>301|226=>318|46=>174|227=>319|n=>n,fun|0=>0|6=>1|n=>n⟩
theorem Tryz.lays157:Go.Proofs.Lays.n157 Tryz.prog Tryz.lays157_ren:= {
 mixed:=by kernel_rfl
 f157:=Tryz.func152.trans (congrArg some (by kernel_rfl))
 f199:=Tryz.func218.trans (congrArg some (by kernel_rfl))
 f229:=Tryz.func217.trans (congrArg some (by kernel_rfl))
 f261:=Tryz.func263.trans (congrArg some (by kernel_rfl))
 f311:=Tryz.func289.trans (congrArg some (by kernel_rfl))
 f312:=Tryz.func290.trans (congrArg some (by kernel_rfl))
 t0:=Tryz.underlying0
 a0:=Tryz.isAgg0
 z0:=Tryz.sizeOf0
 v0:=Tryz.zeroValue0
 t3:=Tryz.underlying3
 a3:=Tryz.isAgg3
 z3:=Tryz.sizeOf3
 v3:=Tryz.zeroValue3
 t4:=Tryz.underlying4
 a4:=Tryz.isAgg4
 z4:=Tryz.sizeOf4
 v4:=Tryz.zeroValue4
 t5:=Tryz.underlying5
 a5:=Tryz.isAgg5
 z5:=Tryz.sizeOf5
 v5:=Tryz.zeroValue5
 t9:=Tryz.underlying9
 a9:=Tryz.isAgg9
 z9:=Tryz.sizeOf9
 v9:=Tryz.zeroValue9
 t21:=Tryz.underlying21
 a21:=Tryz.isAgg21
 z21:=Tryz.sizeOf21
 v21:=Tryz.zeroValue21
 t31:=Tryz.underlying96
 a31:=Tryz.isAgg96
 z31:=Tryz.sizeOf96
 v31:=Tryz.zeroValue96
 t40:=Tryz.underlying244
 a40:=Tryz.isAgg244
 z40:=Tryz.sizeOf244
 v40:=Tryz.zeroValue244
 t46:=Tryz.underlying174
 a46:=Tryz.isAgg174
 z46:=Tryz.sizeOf174
 v46:=Tryz.zeroValue174
 t49:=Tryz.underlying296
 a49:=Tryz.isAgg296
 z49:=Tryz.sizeOf296
 v49:=Tryz.zeroValue296
 t51:=Tryz.underlying217
 a51:=Tryz.isAgg217
 z51:=Tryz.sizeOf217
 v51:=Tryz.zeroValue217
 t119:=Tryz.underlying242
 a119:=Tryz.isAgg242
 z119:=Tryz.sizeOf242
 t141:=Tryz.underlying266
 a141:=Tryz.isAgg266
 z141:=Tryz.sizeOf266
 v141:=Tryz.zeroValue266
 t152:=Tryz.underlying262
 a152:=Tryz.isAgg262
 z152:=Tryz.sizeOf262
 v152:=Tryz.zeroValue262
 t154:=Tryz.underlying264
 a154:=Tryz.isAgg264
 z154:=Tryz.sizeOf264
 v154:=Tryz.zeroValue264
 t193:=Tryz.underlying292
 a193:=Tryz.isAgg292
 z193:=Tryz.sizeOf292
 v193:=Tryz.zeroValue292
 t194:=Tryz.underlying293
 a194:=Tryz.isAgg293
 z194:=Tryz.sizeOf293
 v194:=Tryz.zeroValue293
 t196:=Tryz.underlying295
 a196:=Tryz.isAgg295
 z196:=Tryz.sizeOf295
 v196:=Tryz.zeroValue295
 t198:=Tryz.underlying298
 a198:=Tryz.isAgg298
 z198:=Tryz.sizeOf298
 v198:=Tryz.zeroValue298
 t201:=Tryz.underlying301
 a201:=Tryz.isAgg301
 z201:=Tryz.sizeOf301
 v201:=Tryz.zeroValue301
 t226:=Tryz.underlying318
 a226:=Tryz.isAgg318
 z226:=Tryz.sizeOf318
 v226:=Tryz.zeroValue318
 t227:=Tryz.underlying319
 a227:=Tryz.isAgg319
 z227:=Tryz.sizeOf319
 v227:=Tryz.zeroValue319
 g0:=by kernel_rfl
 g6:=by kernel_rfl}
open Go.RowKit in
theorem Tryz.strings_IndexByte(s:ByteArray)(c:Int)(w:World):
  Calls Tryz.prog 136 #[.string s, .int .u8 c] w λe w'=>e= .returned (.int .i64 (Lib.indexByte s.data.toList c.toNat.toUInt8))/\w'=w:=Any.strings_IndexByte Tryz.lays137 s c w
open Go.RowKit Go.Lib in
theorem Tryz.strings_HasPrefix(s p:ByteArray)(w:World):
  Calls Tryz.prog 127 #[.string s, .string p] w λe w'=>e= .returned (.bool (Lib.hasPrefix s.data.toList p.data.toList))/\w'=w:=Any.strings_HasPrefix Tryz.lays99 s p w
end Go.Proofs
namespace Go.Abs
theorem KG{E:aE}(ho:E.Ok)(xs:List (List UInt8))(t:TypeId)(hm:xs.length<=maxLen):
  aL (E.newFixed (.cells (xs.map λl=>Value.string ⟨l.toArray⟩).toArray t (0,0))).view (.slice (some ⟨E.w.heap.size,0,none⟩) xs.length xs.length) (.slice (xs.map PV.str) .none):=by
 have hadd:∀n,(⟨E.w.heap.size,0,none⟩:Addr).add n=⟨E.w.heap.size,n,none⟩:=by
  intro n;unfold Addr.add;split
  ·rename_i e;subst e;rfl
  ·simp
 refine .slice _ _ _ 1 _ _ (λi _=>Value.string ⟨(xs.getD i []).toArray⟩) z6 (aSl _) hm ?_ ?_ ?_ trivial
 ·intro i hi;simp only[aSh];rfl
 ·intro i j hi hj;have hj0:j=0:=z8
  subst hj0;rw[hadd,Nat.mul_one,Nat.add_zero];simp only[aE.view,aE.newFixed,if_pos,rZ.stable,if_true];unfold World.cell?;rw[heap_alloc_new];simp[hi,aTe]
 ·intro i j hi hj;simp only[aSh]at hj⊢;have hi':i<xs.length:=by simpa using hi
  have hj0:j=0:=by
   have:j<1:=hj;omega
  subst hj0;rw[aTe,aTd hi'];exact aL.str ⟨xs[i].toArray⟩
theorem EU{P:Program}{f:FuncId}{args:List PV}{H:aC}{xs:List (List UInt8)}{t:TypeId}(hm:xs.length<=maxLen)
  (h:∀(E:aE) (vargs:Array Value),E.Ok->E.H=H->RL E.view vargs args->Calls P f vargs E.w λe w'=>e= .returned (.slice (some ⟨E.w.heap.size,0,none⟩) xs.length xs.length)/\w'=E.w.alloc (.cells (xs.map λl=>Value.string ⟨l.toArray⟩).toArray t (0,0))):
  aN P f args H λr' H'=>r'= .slice (xs.map PV.str) .none/\H'=H:=by
 intro E vargs ho hH hrl;refine(h E vargs ho hH hrl).mono ?_;rintro e w' ⟨rfl,rfl⟩;exact⟨E.newFixed _,_,_,rfl,rfl,aE.newFixed_le ho _,ho.newFixed _,KG ho xs t hm,rfl,hH⟩
open Go.Proofs Go.RowKit
def spT:List Value:=(List.range 256).map λc=>.int .u8 (if Lib.isSp (UInt8.ofNat c)then 1 else 0)
def gO:AObj:=.glob (Tryz.lays157_ren.g 0) spT
def GC:aC:= [gO]
theorem YE{V:cS}{vargs:Array Value}{p:PV}(h:RL V vargs [p]):∃v0,vargs= #[v0]/\aL V v0 p:=by
 obtain⟨hsz,hr⟩:=h;have h0:=hr 0 z6;simp only[aSj]at h0;have hs:vargs.size=1:=by simpa using hsz
 rw[aSo,aSt z8]at h0;refine⟨vargs[0], ?_,h0⟩;apply Array.ext<;>simp[hs];intro i hi;subst hi;rfl
theorem yQ(s:List UInt8)(hs:s.length<4294967281)(ha:∀b∈s,b.toNat<128)(hf:(Lib.fields s).length<=maxLen){H:aC}(hG:H[0]? =some gO):aN Tryz.prog 152 [.str s] H λr' H'=>r'= .slice ((Lib.fields s).map PV.str) .none/\H'=H:=by
 refine EU (t:=9) hf λE vargs ho hH hrl=> ?_;obtain⟨v0,rfl,h0⟩:=YE hrl;cases h0 with
 |str z=>
  have hg:=hG;rw[<-hH]at hg;refine Any.strings_Fields_core Tryz.lays157 (by kernel_rfl) z E.w (by rw[Lib.size_eq];exact hs) (λj b hb=>ha b (List.mem_of_getElem? hb)) λc hc=> ?_;have hl:c<spT.length:=by simpa[spT]using hc
  rw[zP ho hg hl];simp[spT]
end Go.Abs
namespace Go.Abs
open Go.Proofs
def eW:List (Nat×AObj)->PS->List Nat->aC->Prop
 | [],_,_,_=>True
 | (b,o)::l,s,F,H=>(H[b]? =some o/\b∉F)/\eW l s F H
theorem dS:∀l,Stb (eW l)
 | [],_,_,_,_,_,_,_,_,_=>trivial
 | (b,o)::l,s,s',F,F',H,H',hf,⟨⟨h1,h2⟩,h3⟩,fr=>⟨fr.get h1 h2,dS l s s' F F' H H' hf h3 fr⟩
theorem eW.app:∀ {l:List (Nat×AObj)} {s:PS} {F:List Nat} {H:aC},eW l s F H->∀L,eW l s F (H++L)
 | [],_,_,_,_,_=>trivial
 | (b,o)::l,s,F,H,⟨⟨h1,h2⟩,h3⟩,L=>⟨⟨aA h1 L,h2⟩,eW.app h3 L⟩
section
variable{P:Program}{toks:List Tk}{ip:Nat}{f:FuncId}{args:List PV}{m:PS->Option PS}{rv:PS->PS->PV}{I:PS->List Nat->aC->Prop}{s s':PS}{F:List Nat}{H:aC}
theorem FC.ap0(h:FC P toks ip f args m rv I)(hm:m s=some s')(hp:eJ toks ip s F H)(hi:I s F H):aN P f args H λr H'=>r=rv s s'/\∃F',eJ toks ip s' F' H'/\Fr F F' H H':=
 (h s s' F H hm hp hi).mono λr H' ⟨h1,F',h2,h3,_⟩=>⟨h1,F',h2,h3⟩
theorem FC.ap{L:aC}(h:FC P toks ip f args m rv I)(hm:m s=some s')(hp:eJ toks ip s F H)(hi:I s F (H++L)):aN P f args (H++L) λr H'=>r=rv s s'/\∃F',eJ toks ip s' F' H'/\Fr F F' (H++L) H':=
 (h s s' F (H++L) hm (hp.app L) hi).mono λr H' ⟨h1,F',h2,h3,_⟩=>⟨h1,F',h2,h3⟩
theorem FN.fc(h:FN P toks ip f args m rv):FC P toks ip f args m rv I0:=λs s' F H hm hp _=>(h s s' F H hm hp).mono λr H' ⟨h1,F',h2,h3⟩=>⟨h1,F',h2,h3,trivial⟩
theorem eN{env:List (Nat×AObj)}(h:∀(s s':PS) (F:List Nat) (H:aC),m s=some s'->eJ toks ip s F H->eW env s F H->aN P f args H λr H'=>r=rv s s'/\∃F',eJ toks ip s' F' H'/\Fr F F' H H'):FC P toks ip f args m rv (eW env):=by
 intro s s' F H hm hp hi;refine(h s s' F H hm hp hi).mono λr H' ⟨h1,F',h2,h3⟩=>⟨h1,F',h2,h3, ?_⟩;exact dS env {s with flag:=s'.flag} s' F F' H H' rfl (by
  have:∀env,eW env s F H->eW env {s with flag:=s'.flag} F H:=by
   intro env
   induction env with
   |nil=>exact λ_=>trivial
   |cons x l ih=>exact λ⟨h1,h2⟩=>⟨h1,ih h2⟩
  exact this env hi) h3
end
def jI(toks:List Tk)(t:List UInt8)(a:PS->Option PS)(s:PS):Option PS:=(cH toks [t] s).bind λs1=>if PZ toks s [t]=true then a s1 else oH 0 s1
def jZ(toks:List Tk):PS->Option PS:=cF 46 (cJ toks)
def dO(c:PS->Bool)(b:PS->Option PS):Nat->PS->Option PS
 |0,_=>none
 |n+1,s=>if c s=true then(b s).bind (dO c b n)else some s
def AA:List (List UInt8):= [[117,115,101],[112,117,98],[102,110],[115,116,114,117,99,116],[101,110,117,109],[116,114,97,105,116],[105,109,112,108],[99,111,110,115,116],[109,97,99,114,111]]
abbrev JU(toks:List Tk)(s:PS):Bool:=PZ toks s AA&& !PZ toks s [[102,110]]
def yF(toks:List Tk)(c:List UInt8)(a:PS->Option PS)(s:PS):Option PS:=(a s).bind λs1=>if s1.pos=s.pos then jZ toks s1 else if PZ toks s1 [c]=true then some s1 else bP toks [44] s1
def pM(toks:List Tk)(n:Nat)(c:List UInt8)(a:PS->Option PS)(s:PS):Option PS:=(dO (λs=>(!PZ toks s [c]&& !JW toks s)&& !JU toks s) (yF toks c a) n s).bind (bP toks c)
inductive xP where
 |block|statement|letS|returnStmt|expr|binary (l:Nat)|unary|arguments|postfx|primary|ifExpr|matchE|structLit|lambda|pattern|path (b:Bool)|typeExpr|typeParams|params (c:List UInt8)|function (b:Bool)|itemBody (k:Int)|item
abbrev dP:=xP->PS->Option PS
def aPp:xP->FuncId
 | .block=>223| .statement=>267| .letS=>292| .returnStmt=>294| .expr=>164| .binary _=>237| .unary=>274| .arguments=>318| .postfx=>301| .primary=>295| .ifExpr=>320| .matchE=>321| .structLit=>322| .lambda=>323| .pattern=>316| .path _=>235| .typeExpr=>163| .typeParams=>220| .params _=>165| .function _=>157| .itemBody _=>101| .item=>54
def aPg:xP->List PV
 | .binary l=> [.int .i64 (l:Nat)]| .path b=> [.bool b]| .params c=> [.str c]| .function b=> [.bool b]| .itemBody k=> [.int .i64 k]|_=> []
def CD:xP->PS->PS->PV
 | .statement=>λ_ s'=>.bool s'.flag
 |_=>cM
def FG(toks:List Tk)(ip:Nat)(f:FuncId)(args:List PV)(m:PS->Option PS)(rv:PS->PS->PV):Prop:=
 ∀(s s':PS) (F:List Nat) (H:aC),m s=some s'->eJ toks ip s F H->eW [(0,gO)] s F H->aN Tryz.prog f args H λr H'=>r=rv s s'/\∃F',eJ toks ip s' F' H'/\Fr F F' H H'
def lD(toks:List Tk)(ip:Nat)(R:dP):Prop:=∀fn,FG toks ip (aPp fn) (.optr ip 0::aPg fn) (R fn) (CD fn)
section
variable{toks:List Tk}{ip:Nat}{f:FuncId}{args:List PV}{m:PS->Option PS}{rv:PS->PS->PV}{I:PS->List Nat->aC->Prop}{s s':PS}{F:List Nat}{H:aC}
theorem FG.ap0(h:FG toks ip f args m rv)(hm:m s=some s')(hp:eJ toks ip s F H)(hg:H[0]? =some gO/\0∉F):aN Tryz.prog f args H λr H'=>r=rv s s'/\∃F',eJ toks ip s' F' H'/\Fr F F' H H':=
 h s s' F H hm hp ⟨hg,trivial⟩
theorem FG.ap{L:aC}(h:FG toks ip f args m rv)(hm:m s=some s')(hp:eJ toks ip s F H)(hg:H[0]? =some gO/\0∉F):aN Tryz.prog f args (H++L) λr H'=>r=rv s s'/\∃F',eJ toks ip s' F' H'/\Fr F F' (H++L) H':=
 h s s' F (H++L) hm (hp.app L) ⟨⟨aA hg.1 L,hg.2⟩,trivial⟩
theorem FG.ap'{L:aC}(h:FG toks ip f args m rv)(hm:m s=some s')(hp:eJ toks ip s F H)(hg:(H++L)[0]? =some gO/\0∉F):aN Tryz.prog f args (H++L) λr H'=>r=rv s s'/\∃F',eJ toks ip s' F' H'/\Fr F F' (H++L) H':=
 h s s' F (H++L) hm (hp.app L) ⟨hg,trivial⟩
theorem FG.fc(h:FG toks ip f args m rv):FC Tryz.prog toks ip f args m rv (eW [(0,gO)]):=eN h
theorem FN.fg(h:FN Tryz.prog toks ip f args m rv):FG toks ip f args m rv:=λs s' F H hm hp _=>h s s' F H hm hp
theorem FG.none(hm:∀s,m s=Option.none):FG toks ip f args m rv:=λs s' F H h _ _=>by rw[hm]at h;cases h
theorem fZ{α:Type}{c:Bool}{a b:α}(h:c=true):(if c=true then a else b)=a:=if_pos h
theorem gI{α:Type}{c:Bool}{a b:α}(h:c=false):(if c=true then a else b)=b:=by rw[h];rfl
end
theorem IS{toks:List Tk}{s s':PS}(h:KD toks s=some s'):s'.flag=s.flag:=by
 obtain⟨_,s1,h1,_,rfl⟩:=sD h;have:=AF h1;exact this
theorem EO{toks:List Tk}:∀(n:Nat) {s s':PS},wU toks n s=some s'->s'.flag=s.flag
 |0,s,s',h=>by cases h;rfl
 |n+1,s,s',h=>by
  unfold wU at h
  split at h
  ·cases h;rfl
  ·split at h
   ·obtain⟨s1,h1,h2⟩:=oB h;exact(EO n h2).trans (IS h1)
   ·cases h;rfl
theorem tB{toks:List Tk}{s s':PS}(h:cJ toks s=some s'):s'.flag=s.flag:=by
 obtain⟨s1,h1,h2⟩:=vR h;have e1:=EO _ h1
 split at h2
 ·exact(IS h2).trans e1
 ·cases h2;exact e1
theorem tO{toks:List Tk}{xs:List (List UInt8)}{s s':PS}(h:cH toks xs s=some s'):s'.flag=s.flag:=by
 unfold cH at h
 split at h
 ·exact tB h
 ·cases h;rfl
theorem xC{k:Int}{s s':PS}(h:oH k s=some s'):s'.flag=s.flag:=AF h
theorem yM{toks:List Tk}{x:List UInt8}{s s':PS}(h:bP toks x s=some s'):s'.flag=s.flag:=by
 obtain⟨s1,h1,h2⟩:=oB h;have e1:=tO h1
 split at h2
 ·cases h2;exact e1
 ·exact(xC h2).trans e1
theorem zR{toks:List Tk}{s s':PS}(h:jZ toks s=some s'):s'.flag=s.flag:=by
 obtain⟨s2,h1,h2⟩:=oB h;obtain⟨s1,h3,h4⟩:=oB h1;obtain⟨_,rfl⟩:=AR h3;have e1:=tB h4;exact(iW h2).trans e1
theorem FG.apX{toks:List Tk}{ip:Nat}{f:FuncId}{args:List PV}{m:PS->Option PS}{rv:PS->PS->PV}{s s':PS}{F:List Nat}{H H1:aC}(h:FG toks ip f args m rv)(hm:m s=some s')(hp:eJ toks ip s F H1)(hg:H1[0]? =some gO/\0∉F)(hL:∃L,H=H1++L:=by first|exact⟨[],(aT4 _).symm⟩|exact⟨_,rfl⟩):aN Go.Proofs.Tryz.prog f args H λr H'=>r=rv s s'/\∃F',eJ toks ip s' F' H'/\Fr F F' H H':=by
 obtain⟨L,rfl⟩:=hL;exact FG.ap h hm hp hg
theorem FC.apX{P:Program}{toks:List Tk}{ip:Nat}{f:FuncId}{args:List PV}{m:PS->Option PS}{rv:PS->PS->PV}{l:List (Nat×AObj)}{s s':PS}{F:List Nat}{H H1 H2:aC}(h:FC P toks ip f args m rv (eW l))(hm:m s=some s')(hp:eJ toks ip s F H1)(hi:eW l s F H2)(hL:∃L,H=H1++L:=by first|exact⟨[],(aT4 _).symm⟩|exact⟨_,rfl⟩)(hK:∃L,H=H2++L:=by first|exact⟨[],(aT4 _).symm⟩|exact⟨_,rfl⟩):aN P f args H λr H'=>r=rv s s'/\∃F',eJ toks ip s' F' H'/\Fr F F' H H':=by
 obtain⟨L,e⟩:=hL;obtain⟨K,e'⟩:=hK;have:=eW.app hi K;rw[<-e',e]at this;subst e;exact FC.ap h hm hp this
theorem aGy:Lib.fields [117,115,101,32,112,117,98,32,102,110,32,115,116,114,117,99,116,32,101,110,117,109,32,116,114,97,105,116,32,105,109,112,108,32,99,111,110,115,116,32,109,97,99,114,111]=AA:=by kernel_rfl
theorem pY{H:aC}(hG:H[0]? =some gO):aN Tryz.prog 154 [] H λr' H'=>r'= .slice (AA.map PV.str) .none/\H'=H:=by
 have hk:=yQ [117,115,101,32,112,117,98,32,102,110,32,115,116,114,117,99,116,32,101,110,117,109,32,116,114,97,105,116,32,105,109,112,108,32,99,111,110,115,116,32,109,97,99,114,111] z7 z7 (by rw[aGy];decide) hG;rw[aGy]at hk;refine gK (N:=2) Tryz.func154 rfl rfl z6 (cQ _ _) λhb'=> ?_;refine nV ?_;refine wQ ?_;refine wR ?_;refine oP (KU tN) (mL tN) z7 EG hk ?_;refine OI ?_;refine wQ ?_;refine wT ⟨.inr rfl,_,_,rfl, ?_,ZW⟩;simp only[jN,seval,aB,qC]
 try rfl
theorem aCc{H:aC}{ip pos:Nat}{toks:List Tk}{st:PV}(hp:H[ip]? =some (.row [.slice (toks.map Tk.enc) .none, .int .i64 (pos:Nat),st]))(hl:toks.length<=4611686018427387904)(hpos:pos<=toks.length)(hG:H[0]? =some gO):aN Tryz.prog 268 [.optr ip 0] H λr' H'=>r'= .bool (eI (aG toks pos) AA&& !eI (aG toks pos) [[102,110]])/\H'=H:=by
 have q:∀L,(H++L)[ip]? =some (.row [.slice (toks.map Tk.enc) .none, .int .i64 (pos:Nat),st]):=λL=>by rw[aSv (lG hp)];exact hp
 have hip:=lG hp;have ff:∀k,(ip=H.length+k)=False:=λk=>by simp;omega
 have ff0:(ip=H.length)=False:=by simp;omega
 refine gK (N:=12) Tryz.func268 rfl rfl z6 ((.bool _)) λhb'=> ?_;refine qE (a3 q ff ff0) ?_;refine wQ ?_;refine wR ?_;refine bO ?_;refine gT 1 (a3 q ff ff0) ?_;refine gP (a3 q ff ff0) PR (λhc=>pY hG) ?_;refine gP (a3 q ff ff0) dJ (λhc=>fM (by first|exact hp|exact aA hp _) hl hpos AA z7) ?_;refine gT 3 (a5 y9 fQ q ff ff0) ?_;refine gP (a3 q ff ff0) dJ (λhc=>fM (by first|exact hp|exact aA hp _) hl hpos [[102,110]] z7) ?_;refine gX (a3 q ff ff0) ?_;refine wQ ?_;refine wT ⟨.inr rfl,_,_,rfl, ?_,ZW⟩;simp only[jN,seval,aB,qC]
 try rfl
theorem mR(toks:List Tk)(ip:Nat)(t:List UInt8)(f:FuncId)(pf pc:List PV)(hgo:aP Tryz.prog f=true){a:PS->Option PS}{rv:PS->PS->PV}{I:PS->List Nat->aC->Prop}(hI:Stb I)(hc:FC Tryz.prog toks ip f (pf++pc) a rv I):FC Tryz.prog toks ip 221 [.optr ip 0, .str t, .fn (.func f) pf pc] (jI toks t a) cM I:=by
 intro s s' F0 H0 hm p0 i0;have f0:=Fr.refl F0 H0;obtain⟨st0,r0⟩:=p0.row;have hl:=aV p0.len;obtain⟨s1,e1,hm⟩:=oB hm;refine aF (N:=14) Tryz.func221 rfl rfl z6 λhb'=> ?_;refine qT 3 (a2 y9 fQ) ?_;refine qA0 wV (FN.apX (eG toks ip [t] (by show 1<=maxLen;decide)) e1 p0) ?_;rintro _ H1 ⟨rfl,F1,p1,g1⟩;have f1:=f0.stX g1;obtain⟨st1,r1⟩:=p1.row;refine oN ?_;refine GR (λbt9=> ?_) (λbt9=> ?_)
 ·
  rw[fZ bt9]at hm;refine KT 1 ?_;refine qA0 hgo (hc s1 s' F1 _ hm p1 (hI s _ _ _ _ _ (tO e1) i0 f1)) ?_;rintro _ H2 ⟨rfl,F2,p2,g2,i2⟩;have f2:=f1.stX g2;obtain⟨st2,r2⟩:=p2.row;refine oN ?_;refine dL ?_;exact⟨rfl,F2,p2,f2,i2⟩
 ·
  rw[gI bt9]at hm;refine KT 1 ?_;refine qA0 aJa (FN.apX (yK toks ip) hm p1) ?_;rintro _ H3 ⟨rfl,F3,p3,g3⟩;have f3:=f1.stX g3;obtain⟨st3,r3⟩:=p3.row;have i3:=hI s _ _ _ _ _ ((xC hm).trans (tO e1)) i0 f3;refine oN ?_;refine dL ?_;exact⟨rfl,F3,p3,f3,i3⟩
theorem tM(toks:List Tk)(ip:Nat):FN Tryz.prog toks ip 269 [.optr ip 0] (jZ toks) cM:=by
 intro s s' F0 H0 hm p0;have f0:=Fr.refl F0 H0;obtain⟨st0,r0⟩:=p0.row;have hl:=aV p0.len;refine aF (N:=6) Tryz.func269 rfl rfl z6 λhb'=> ?_;refine KT 3 ?_;refine qA0 TD ((by first|exact FC.ap0 (cP toks ip 46 100 [.optr ip 0] [] nC aPa (FN.fc (cC toks ip))) hm p0 trivial|exact FC.ap (cP toks ip 46 100 [.optr ip 0] [] nC aPa (FN.fc (cC toks ip))) hm p0 trivial)) ?_;rintro _ H1 ⟨rfl,F1,p1,g1⟩;have f1:=f0.stX g1;obtain⟨st1,r1⟩:=p1.row;refine oN ?_;refine dL ?_;exact⟨rfl,F1,p1,f1⟩
theorem rJ(toks:List Tk)(ip:Nat)(n:Nat)(c:List UInt8)(f:FuncId)(pf pc:List PV)(hgo:aP Tryz.prog f=true){a:PS->Option PS}{rv:PS->PS->PV}{I:PS->List Nat->aC->Prop}(hI:Stb I)(hG:∀s F H,I s F H->H[0]? =some gO/\0∉F)(hc:FC Tryz.prog toks ip f (pf++pc) a rv I):FC Tryz.prog toks ip 224 [.optr ip 0, .str c, .fn (.func f) pf pc] (pM toks n c a) cM I:=by
 intro s s' F0 H0 hm p0 i0;have f0:=Fr.refl F0 H0;obtain⟨st0,r0⟩:=p0.row;have hl:=aV p0.len;obtain⟨sm,e0,hm⟩:=oB hm;refine aF (N:=48) Tryz.func224 rfl rfl z6 λhb'=> ?_;refine qB ?_;refine eC (σ:=Nat×PS×List Nat) (λ(z:Nat×PS×List Nat)=> [(0, .optr ip 0),(1, .str c),(2, .fn (.func f) pf pc)]) (λ(z:Nat×PS×List Nat)=>λH1=>dO (λs=>(!PZ toks s [c]&& !JW toks s)&& !JU toks s) (yF toks c a) z.1 z.2.1=some sm/\eJ toks ip z.2.1 z.2.2 H1/\Fr F0 z.2.2 H0 H1/\I z.2.1 z.2.2 H1) (λ(z:Nat×PS×List Nat)=>z.1) ((n,s,F0)) ⟨(Zf tN),(Zf tN),(Zf tN),trivial⟩ (⟨e0,p0,f0,i0⟩) ?_;intro z H1 hg;obtain⟨k,s1,F1⟩:=z;obtain⟨hk,p1,f1,i1⟩:=hg;simp only at hk p1 f1 i1;obtain⟨st1,r1⟩:=p1.row;cases k with
 |zero=>cases hk
 |succ k=> ?_
 unfold dO at hk;refine wQ ?_;refine wR ?_;refine bO ?_;refine gT 3 (a3 y9 fQ (w1 r1)) ?_;refine gP (w1 r1) dJ (λhc=>fM (mB r1) hl p1.pos [c] (by show 1<=maxLen;decide)) ?_;refine gT 3 (w1 r1) ?_;refine gP (w1 r1) TC (λhc=>CA (mB r1) hl p1.pos) ?_;refine gT 4 (w1 r1) ?_;refine gP (w1 r1) aKn (λhc=>aCc (mB r1) hl p1.pos (hG _ _ _ i1).1) ?_;refine gX (w1 r1) ?_;refine qI (w1 r1) (λbt21=> ?_) (λbt21=> ?_)
 ·
  rw[fZ bt21]at hk;obtain⟨s9,hb,hk⟩:=oB hk;obtain⟨s2,e2,hb⟩:=oB hb;refine qK ?_;refine qB ?_;refine qL [0,1,2] (w1 r1) ?_;refine qE (a3 y3 gF (w1 r1)) ?_;refine qT 1 (w1 r1) ?_;refine qA (w1 r1) hgo (hc s1 s2 F1 _ e2 p1 i1) ?_;rintro _ H2 ⟨rfl,F2,p2,g2,i2⟩;have f2:=f1.stX g2;obtain⟨st2,r2⟩:=p2.row;refine oN ?_;refine qB ?_;refine qE (a3 y3 gF (w1 r2)) ?_;refine qI (w1 r2) (λbt28=> ?_) (λbt28=> ?_)
  ·
   rw[if_pos (by have:=of_decide_eq_true bt28;omega)]at hb;refine qT 1 (w1 r2) ?_;refine qA (w1 r2) aNu (FN.apX (tM toks ip) hb p2) ?_;rintro _ H3 ⟨rfl,F3,p3,g3⟩;have f3:=f2.stX g3;obtain⟨st3,r3⟩:=p3.row;have i3:=hI s2 _ _ _ _ _ (zR hb) i2 g3;refine oN ?_
   try simp only[aW,aO]
   exact⟨(k,_,F3),aT9 _,⟨rfl,rfl,rfl,trivial⟩,hk,p3,f3,i3⟩
  ·
   rw[if_neg (by have:=of_decide_eq_false bt28;omega)]at hb;refine qT 3 (a3 y9 fQ (w1 r2)) ?_;refine qP (w1 r2) dJ (fM (mB r2) hl p2.pos [c] (by show 1<=maxLen;decide)) ?_;refine qX (w1 r2) ?_;refine qI (w1 r2) (λbt37=> ?_) (λbt37=> ?_)
   ·
    rw[gI (by simpa using bt37)]at hb;refine qL [0,1,2] (w1 r2) ?_;refine qT 1 (w1 r2) ?_;refine qA (w1 r2) DW (FN.apX (bL toks ip [44]) hb p2) ?_;rintro _ H4 ⟨rfl,F4,p4,g4⟩;have f4:=f2.stX g4;obtain⟨st4,r4⟩:=p4.row;have i4:=hI s2 _ _ _ _ _ (yM hb) i2 g4;refine oN ?_
    try simp only[aW,aO]
    exact⟨(k,_,F4),aT9 _,⟨rfl,rfl,rfl,trivial⟩,hk,p4,f4,i4⟩
   ·
    rw[fZ (by simpa using bt37)]at hb;injection hb with hb;subst hb;refine qK ?_
    try simp only[aW,aO]
    exact⟨(k,_,F2),aT9 _,⟨rfl,rfl,rfl,trivial⟩,hk,p2,f2,i2⟩
 ·
  rw[gI bt21]at hk;injection hk with hk;subst hk;refine wQ ?_;refine bD ?_;simp only[aW,aO,reduceIte,Nat.reduceEqDiff,aUb,if_true,if_false];refine qL [0,1,2] (w1 r1) ?_;refine qT 2 (w1 r1) ?_;refine qA (w1 r1) DW (FN.apX (bL toks ip c) hm p1) ?_;rintro _ H5 ⟨rfl,F5,p5,g5⟩;have f5:=f1.stX g5;obtain⟨st5,r5⟩:=p5.row;have i5:=hI s1 _ _ _ _ _ (yM hm) i1 g5;refine oN ?_;refine dL ?_;exact⟨rfl,F5,p5,f5,i5⟩
def iF(i:TI)(T:Nat->PV):List PV->List (Nat×Operand)->Option (List PV)
 |es,[]=>some es
 |es,(k,x)::rest=>if(bT T x).fits i=true/\k<es.length then iF i T (es.set k (bT T x)) rest else none
theorem uI{i:TI}{T T':aD}:∀(ps:List (Nat×Operand)) (cs:List PV),(∀x∈ps,bT T' x.2=bT T x.2)->iF i T' cs ps=iF i T cs ps
 | [],cs,_=>rfl
 | (f,x)::ps,cs,h=>by
  unfold iF;rw[h (f,x) z6]
  split
  ·exact uI ps _ (λy hy=>h y (by simp[hy]))
  ·rfl
section
variable{P:Program}{N nb:Nat}{ops:Array Oper}{Q:dG}{E:aE}{a:Act}{T:aD}
section
variable(ht:eR E.view N a T)
include ht
theorem xT(i:TI):∀(ps:List (Nat×Operand)) (arr:Array Value) (es es':List PV),RL E.view arr (aH es)->(∀e∈es,e.cells.length=i.sz)->ps.all (λx=>aQ N x.2)=true->iF i T es ps=some es'->
  ∃arr',Instr.fill (λk=>some (k*i.sz,i.sz)) arr (ps.map λ(i,x)=>(i,a.eval x))=some arr'/\RL E.view arr' (aH es')/\(∀e∈es',e.cells.length=i.sz)/\es'.length=es.length
 | [],arr,es,es',h,hs,_,hb=>by cases hb;exact⟨arr,rfl,h,hs,rfl⟩
 | (k,x)::rest,arr,es,es',h,hs,hok,hb=>by
  simp only[aSd,aSe]at hok;unfold iF at hb
  split at hb
  ·rename_i hc;obtain⟨hc1,hk⟩:=hc;obtain⟨hc2,hc3⟩:=PV.fits_spec hc1;have hr:=aM ht x hok.1;obtain⟨c1,c2⟩:=hr.not_junk_cells hc3;have c3:(a.eval x).cells.size=i.sz:=by rw[c1,hc2]
   have hdl:(bT T x).cells.length=i.sz:=by rw[hc2]
   have h':=oW (V:=E.view) (a.eval x).cells.toList (bT T x).cells (k*i.sz) 0 arr (aH es) h (by simp[c1]) (λj hj=>by
    have:=c2 j hj;rw[aSo]at this;rw[aTe,aTf];exact this)
   rw[Nat.add_zero,yH es hs k hk _ hdl]at h';have hs':∀e∈es.set k (bT T x),e.cells.length=i.sz:=by
    intro e he;rcases List.mem_or_eq_of_mem_set he with he|rfl
    ·exact hs e he
    ·exact hdl
   obtain⟨arr',e1,e2,e3,e4⟩:=xT i rest _ _ es' h' hs' hok.2 hb;refine⟨arr', ?_,e2,e3,by rw[e4];simp⟩;simp only[aTg,Instr.fill];have hfl:=bQ es hs;have hks:(k+1)*i.sz<=es.length*i.sz:=aTj _ hk;rw[Nat.succ_mul]at hks;rw[if_neg]
   ·rw[<-e1];congr 1;rw[<-Array.foldl_toList,Array.toList_zipIdx]
   ·rw[c3,h.1,hfl];simp;omega
  ·cases hb
include ht in
end
end
section
variable{P:Program}{N nb:Nat}{ops:Array Oper}{Q:dG}
theorem uW{E:aE}{a:Act}{T:aD}(ht:eR E.view N a T)(ho:E.Ok){t:TypeId}{n:Nat}{ps:Array (Nat×Operand)}(hok:ps.toList.all (λx=>aQ N x.2)=true){ei:TypeId×TI}(hf:dH P t=some ei){z:PV}(hz:dC P ei.1=some z)
  (hfit:z.fits ei.2=true) (hs0:0<ei.2.sz) (hn:0<n) (hsz:n*ei.2.sz<=2^24) {es:List PV} (hb:iF ei.2 T (aS6 n z) ps.toList=some es) {id:Nat} (hid:E.H[id]? =some .unborn):
  ∃E' val,(Instr.buildSlice t n (ps.map λ(i,x)=>(i,a.eval x))).run P E.w= .ok val E'.w/\E.le E'/\E'.Ok/\E'.H=E.H.set id (.row (aH es))/\aL E'.view val (.msl id 0 n n):=by
 obtain⟨e,i⟩:=ei;obtain⟨h1,h2⟩:=dE hf;obtain⟨d,f,h3,h4,rfl⟩:=cA h2;obtain⟨f',v,h5,h6,rfl⟩:=eQ hz;simp only at hfit hs0 hsz hb h5;rw[h4]at h5;cases h5;obtain⟨hc1,hc2⟩:=PV.fits_spec hfit;simp only at hc1;obtain⟨c1,c2⟩:=(dR E.view v).not_junk_cells hc2;have hvs:v.cells.size=f.size:=c1.trans hc1;have hrl:=qV (V:=E.view) v hc2 n;have hes:∀e∈aS6 n (aT v),e.cells.length=f.size:=by
  intro e he;rw[(List.mem_replicate.1 he).2,hc1]
 obtain⟨arr',e1,e2,e3,e4⟩:=xT ht ⟨vM d,f.size,f.bytes⟩ ps.toList _ _ es hrl hes hok hb;rw[List.length_replicate]at e4;have hle:=aE.newRow_le ho hid arr' e (aH es);have hlen:=lG hid;refine⟨E.newRow id arr' e (aH es), .slice (some ⟨E.w.heap.size,0,none⟩) n n, ?_,hle,aE.Ok.newRow ho hid arr' e (aH es) e2.1 e2.2,rfl, ?_⟩
 ·simp only[Instr.buildSlice,aS4,aS h1,dK h4,aS5];have hlt:¬n*f.size>2^24:=z8
  simp only[hlt,if_false,aS7,aS5,Sem.run_ite,aS4];have hn0:¬n*f.size=0:=by have:=Nat.mul_pos hn hs0;omega
  simp only[if_neg hn0,jH h4 h6,aS5,aS4,aS7];rw[Array.toList_map];rw[hvs]at e1;simp only[hvs,e1,newRow,aS4,run_newObj,aS5,aS7];rfl
 ·have hm:n<=maxLen:=by
   have:n<=n*f.size:=Nat.le_mul_of_pos_right _ hs0;unfold maxLen;omega
  have:=aL.msl (V:=(E.newRow id arr' e (aH es)).view) id 0 n n ⟨.row _,by simp only[aE.newRow];exact aSz hlen,z6⟩ hm;simpa[aE.view,aE.newRow]using this
theorem XZ{bm:List Nat}{k:Nat}{o:Oper}{l:List Oper}{prev:fD}{T:aD}{H:aC}(id:Nat){t:TypeId}{n:Nat}{ps:Array (Nat×Operand)}{ei:TypeId×TI}{z:PV}{es:List PV}(hbm:cL ops.toList=bm)(hid:H[id]? =some .unborn)(hw:aU ops.toList T N o=some true)
  (hop:o.op= .buildSlice t n ps) (hok:ps.toList.all (λx=>aQ N x.2)=true) (hf:dH P t=some ei) (hz:dC P ei.1=some z)
  (hfit:z.fits ei.2=true) (hs0:0<ei.2.sz) (hn:0<n) (hsz:n*ei.2.sz<=2^24) (hb:iF ei.2 T (aS6 n z) ps.toList=some es) (hap:nM (bm.getD k 0) prev [id] [id]=true)
  (h:iI P N ops Q (k+1) l (prev++ [(k,[id],[id])]) (bU T o.dst (.msl id 0 n n)) (H.set id (.row (aH es)))):iI P N ops Q k (o::l) prev T H:=by
 refine⟨_,[(id, .row (aH es))],[id], ?_,z6,lM (eff:= [(id, .row (aH es))]) (by rw[hbm];exact hap),h⟩;intro T' H' hT hH hlen E a ho hE ht;refine .inr ⟨cB ht (gL hT hw),λnext Q' hn'=> ?_⟩;have hb':iF ei.2 T' (aS6 n z) ps.toList=some es:=by
  rw[uI ps.toList _ (λx hx=>mO hT x.2 (by rw[hop];simp only[Op.operands];exact aTq.2 ⟨x,hx,rfl⟩))];exact hb
 obtain⟨E',val,e1,e2,e3,e4,e5⟩:=uW ht ho hok hf hz hfit hs0 hn hsz hb' (id:=id) (by rw[hE,hH id z6];exact hid);have:=hn' E' val e2 e3 (by rw[e4,hE];rfl) e5;unfold Oper.wp execOp;rw[hop];simp only[aS4,e1,aS5,aS7];exact this
end
section
variable{P:Program}{N nb:Nat}{ops:Array Oper}{Q:dG}
theorem XJ{k:Nat}{o:Oper}{l:List Oper}{prev:fD}{T:aD}{H:aC}{v:PV}(hw:aU ops.toList T N o=some true)
  (hv:∀(E:aE) (a:Act),E.Ok->(∀x∈o.op.operands.toList,aQ N x=true->aL E.view (a.eval x) (bT T x))->∃val,(execOp a.eval o).run P E.w= .ok (.value val) E.w/\aL E.view val v)
  (h:iI P N ops Q (k+1) l (prev++ [(k,[],[])]) (bU T o.dst v) H):iI P N ops Q k (o::l) prev T H:=by
 refine⟨v,[],[], ?_,z6,λp hp=>.inr ⟨z6,z6⟩,h⟩;intro T' H' hT hHd hlen E a ho hE ht;refine .inr ⟨cB ht (gL hT hw),λnext Q hnx=> ?_⟩;obtain⟨val,h1,h2⟩:=hv E a ho λx hx hok=>by
  have:=aM ht x hok
  rwa [mO hT x hx]at this
 unfold Oper.wp;rw[h1];exact hnx E val (.refl E) ho hE h2
theorem BB{kk0:Nat}{o:Oper}{l:List Oper}{prev:fD}{T:aD}{H:aC}{t:TypeId}{x y:Operand}{ei:TypeId×TI}{id n c:Nat}{kk:IntKind}{k:Nat}(hw:aU ops.toList T N o=some true)
  (hop:o.op= .slice t x none (some y) none) (okx:aQ N x=true) (oky:aQ N y=true) (hte:dH P t=some ei) (hx:bT T x= .msl id 0 n c) (hy:bT T y= .int kk k) (hk:k<=c)
  (h:iI P N ops Q (kk0+1) l (prev++ [(kk0,[],[])]) (bU T o.dst (.msl id 0 k c)) H):iI P N ops Q kk0 (o::l) prev T H:=by
 refine XJ hw (λE a ho hvs=> ?_) h;obtain⟨e,i⟩:=ei;obtain⟨hu,hti⟩:=dE hte;obtain⟨d,f,h3,h4,rfl⟩:=cA hti;have hvx:=hvs x (by rw[hop];simp[Op.operands]) okx;have hvy:=hvs y (by rw[hop];simp[Op.operands]) oky;rw[hx]at hvx;rw[hy]at hvy;have vy:=hvy.int_inv;obtain⟨vx,hcm,hbn⟩:a.eval x= .slice (some ⟨E.ρ id,0,none⟩) n c/\c<=maxLen/\E.view.born id:=by
  generalize a.eval x=w at hvx;cases hvx with
  |msl _ _ _ _ hbn hm=>exact⟨rfl,hm,hbn⟩
 refine⟨.slice (some ⟨E.ρ id,0,none⟩) k c, ?_, .msl id 0 k c hbn hcm⟩;have hb:(Instr.sliceBound (.int kk (k:Int)) c .sliceAcap).run P E.w= .ok k E.w:=by
  have hb0:(0:Int)<=(k:Int)/\(k:Int)<=c:=⟨z8,z8⟩;simp only[Instr.sliceBound,asIntOf,aS4,aS7,aS5,if_pos hb0,Sem.run_ite,tN]
 unfold execOp;rw[hop];have e1:(if c=0 then(some (⟨E.ρ id,0,none⟩:Addr))else Option.map (λz:Addr=>z.add (0*f.size)) (some ⟨E.ρ id,0,none⟩))=some ⟨E.ρ id,0,none⟩:=by
  split
  ·rfl
  ·simp[Nat.zero_mul,vS]
 simp only[aS4,Instr.sliceAt,aS hu,aS5,Instr.slice,Instr.sliceBounds,aTl,aS1,aTm,aTc,if_false,vx,vy,if_true,hb,aS7,dK h4,Nat.sub_zero];rw[show(if c=0 then(some (⟨E.ρ id,0,none⟩:Addr))else some ((⟨E.ρ id,0,none⟩:Addr).add (0*f.size)))=some ⟨E.ρ id,0,none⟩from e1]
end
def aE.retell(E:aE)(j:Nat)(cs:List PV):aE:= {E with H:=E.H.set j (.row cs)}
section
variable{E:aE}(ho:E.Ok){j:Nat}{cs cs':List PV}(hj:E.H[j]? =some (.row cs))
include ho hj
theorem aE.retell_get{x:Nat}(hx:x≠j):(E.retell j cs').H[x]? =E.H[x]? :=by have _:=ho;have _:=hj;simp only[aE.retell];rw[aS0 (Ne.symm hx)]
theorem aE.retell_at:(E.retell j cs').H[j]? =some (.row cs'):=by have _:=ho;simp only[aE.retell];rw[aSz (lG hj)]
theorem aE.retell_row{x:Nat}{r:List PV}(h:(E.retell j cs').H[x]? =some (.row r)):∃r',E.H[x]? =some (.row r'):=by
 by_cases e:x=j
 ·subst e;exact⟨cs,hj⟩
 ·rw[aE.retell_get ho hj e]at h;exact⟨r,h⟩
theorem aE.retell_other{x:Nat}{o:AObj}(hn:∀r,o≠ .row r)(h:(E.retell j cs').H[x]? =some o):x≠j/\E.H[x]? =some o:=by
 by_cases e:x=j
 ·subst e;rw[aE.retell_at ho hj]at h;injection h with h;exact absurd h.symm (hn _)
 ·rw[aE.retell_get ho hj e]at h;exact⟨e,h⟩
theorem aE.retell_view:E.view.le (E.retell j cs').view:=by
 refine⟨λa v h=>h,λx ⟨o,h1,h2⟩=> ?_,λx _=>rfl,λx t' _ ht=>⟨t', ?_, .inl rfl⟩⟩
 ·by_cases e:x=j
  ·subst e;exact⟨_,aE.retell_at ho hj,z6⟩
  ·exact⟨o,by rw[aE.retell_get ho hj e];exact h1,h2⟩
 ·simp only[aE.view]at ht⊢
  by_cases e:x=j
  ·subst e;rw[aE.retell_at ho hj]at ht;simp at ht
  ·rw[aE.retell_get ho hj e]at ht;exact ht
theorem aE.retell_le:E.le (E.retell j cs'):=by
 refine⟨rfl,rfl,rfl,aSl _,λb hb h1=>⟨rfl,rfl⟩,aE.retell_view ho hj,λb hb=> ?_⟩;rintro(⟨x,r,h1,h2⟩| ⟨x,n,sz,h1,h2⟩| ⟨x,k,h1,h2⟩)
 ·obtain⟨r',h3⟩:=aE.retell_row ho hj h1;exact .inl ⟨x,r',h3,h2⟩
 ·exact .inr (.inl ⟨x,n,sz,(aE.retell_other ho hj z6 h1).2,h2⟩)
 ·exact .inr (.inr ⟨x,k,(aE.retell_other ho hj z6 h1).2,h2⟩)
theorem aE.Ok.retell(hl:cs'.length=cs.length)(hr:∀i (h1:i<cs.length) (h2:i<cs'.length) v,aL E.view v cs[i]->aL E.view v cs'[i]):(E.retell j cs').Ok:=by
 have hv:=aE.retell_view (cs':=cs') ho hj;refine⟨?_, ?_, ?_, ?_, ?_,⟨?_, ?_⟩⟩
 ·intro x r hx
  by_cases e:x=j
  ·subst e;rw[aE.retell_at ho hj]at hx;cases hx;obtain⟨arr,el,h1,h2,h3,h4⟩:=ho.rows x cs hj;exact⟨arr,el,h1,by rw[h2,hl],λi hi=>(hr i z8 hi _ (h3 i z8)).mono hv,h4⟩
  ·rw[aE.retell_get ho hj e]at hx;obtain⟨arr,el,h1,h2,h3,h4⟩:=ho.rows x r hx;exact⟨arr,el,h1,h2,λi hi=>(h3 i hi).mono hv,h4⟩
 ·intro x n sz b hx hb;exact ho.bufs x n sz b (aE.retell_other ho hj z6 hx).2 hb
 ·intro x x' r r' hx hx' e;obtain⟨_,h1⟩:=aE.retell_row ho hj hx;obtain⟨_,h2⟩:=aE.retell_row ho hj hx';exact ho.injr x x' _ _ h1 h2 e
 ·intro x x' n sz n' sz' b hx hx' hb hb';exact ho.injb x x' n sz n' sz' b (aE.retell_other ho hj z6 hx).2 (aE.retell_other ho hj z6 hx').2 hb hb'
 ·intro x b vs hx i hi;exact hv.cell _ _ (ho.globs x b vs (aE.retell_other ho hj z6 hx).2 i hi)
 ·intro x k hx;obtain⟨⟨o,h1,h2⟩,h3⟩:=ho.objs.at_ x k (aE.retell_other ho hj z6 hx).2;exact⟨⟨o,h1,h2.mono hv⟩,h3⟩
 ·intro x x' k k' hx hx' e;exact ho.objs.inj x x' k k' (aE.retell_other ho hj z6 hx).2 (aE.retell_other ho hj z6 hx').2 e
end
section
variable{P:Program}{N nb:Nat}{Q:dG}
theorem zO{c:Code}{T:aD}{H:aC}(id k sz j:Nat)(es:List PV){cs cs':List PV}(hrow:H[id]? =some (.row (aH es)))(hk:k<=es.length)(hes:∀e∈es,e.cells.length=sz)(hj:H[j]? =some (.row cs))(hji:j≠id)
  (hl:cs'.length=cs.length) (hq:∀i (h1:i<cs.length) (h2:i<cs'.length),Fz id k es cs[i] cs'[i])
  (h:eA P N nb c Q T ((H.set id EA).set j (.row cs'))):eA P N nb c Q T H:=by
 intro E a ho hH ht;subst hH;have hle:=aE.frz1_le ho hrow;have ho1:=aE.Ok.frz1 ho hrow;have hj1:(E.frz1 id).H[j]? =some (.row cs):=by rw[aE.frz1_get ho hrow hji];exact hj
 obtain⟨arr,el,a1,a2,a3,a4⟩:=ho.rows j cs hj;have ho2:((E.frz1 id).retell j cs').Ok:=by
  have hv:=aE.retell_view (cs':=cs') ho1 hj1;refine⟨?_, ?_, ?_, ?_, ?_,⟨?_, ?_⟩⟩
  ·intro x r hx
   by_cases e:x=j
   ·subst e;rw[aE.retell_at ho1 hj1]at hx;cases hx;obtain⟨arr',el',h1,h2,h3,h4⟩:=ho1.rows x cs hj1;have ea:arr'=arr:=by
     have hh:E.w.heap[E.ρ x]? =some (.cells arr' el' (0,0)):=h1;rw[a1]at hh;injection hh with hh;injection hh with hh;exact hh.symm
    subst ea;exact⟨arr',el',h1,by rw[h2,hl],λi hi=>((hq i z8 hi).rel ho hrow hk hes (a3 i z8)).mono hv,h4⟩
   ·rw[aE.retell_get ho1 hj1 e]at hx;obtain⟨arr,el,h1,h2,h3,h4⟩:=ho1.rows x r hx;exact⟨arr,el,h1,h2,λi hi=>(h3 i hi).mono hv,h4⟩
  ·intro x n sz b hx hb;exact ho1.bufs x n sz b (aE.retell_other ho1 hj1 z6 hx).2 hb
  ·intro x x' r r' hx hx' e;obtain⟨_,h1⟩:=aE.retell_row ho1 hj1 hx;obtain⟨_,h2⟩:=aE.retell_row ho1 hj1 hx';exact ho1.injr x x' _ _ h1 h2 e
  ·intro x x' n sz n' sz' b hx hx' hb hb';exact ho1.injb x x' n sz n' sz' b (aE.retell_other ho1 hj1 z6 hx).2 (aE.retell_other ho1 hj1 z6 hx').2 hb hb'
  ·intro x b vs hx i hi;exact hv.cell _ _ (ho1.globs x b vs (aE.retell_other ho1 hj1 z6 hx).2 i hi)
  ·intro x k hx;obtain⟨⟨o,h1,h2⟩,h3⟩:=ho1.objs.at_ x k (aE.retell_other ho1 hj1 z6 hx).2;exact⟨⟨o,h1,h2.mono hv⟩,h3⟩
  ·intro x x' k k' hx hx' e;exact ho1.objs.inj x x' k k' (aE.retell_other ho1 hj1 z6 hx).2 (aE.retell_other ho1 hj1 z6 hx').2 e
 have hle2:=hle.trans (aE.retell_le (cs':=cs') ho1 hj1);exact wp_mono (h ((E.frz1 id).retell j cs') a ho2 rfl (ht.mono hle2.view)) λe a w hl=>eP (hle2.leN nb) (λ_ _ _ q=>q) hl
end
section
variable{P:Program}{N nb:Nat}{ops:Array Oper}{Q:dG}
theorem NV{o:Oper}{l:List Oper}{T:aD}{H:aC}{t:TypeId}{n:Nat}{ps:Array (Nat×Operand)}{ei:TypeId×TI}{z:PV}{es:List PV}(hw:aU ops.toList T N o=some true)
  (hop:o.op= .buildSlice t n ps) (hok:ps.toList.all (λx=>aQ N x.2)=true) (hf:dH P t=some ei) (hz:dC P ei.1=some z)
  (hfit:z.fits ei.2=true) (hs0:0<ei.2.sz) (hn:0<n) (hsz:n*ei.2.sz<=2^24) (hb:iF ei.2 T (aS6 n z) ps.toList=some es)
  (h:bH P N nb ops Q l (bU T o.dst (.msl H.length 0 n n)) (H++ [.row (aH es)])):bH P N nb ops Q (o::l) T H:=by
 refine fW hw (λE a ho hH ht=> ?_) h;have hun:E.ext.H[E.H.length]? =some .unborn:=by simp[aE.ext]
 obtain⟨E',val,e1,e2,e3,e4,e5⟩:=uW (ht.mono E.ext_view_le) ho.ext hok hf hz hfit hs0 hn hsz hb hun;refine⟨E',val, .inl ?_,E.ext_le.trans e2,e3, ?_,by rw[<-hH];exact e5⟩
 ·have e1':(Instr.buildSlice t n (ps.map λ(i,x)=>(i,a.eval x))).run P E.w= .ok val E'.w:=e1;unfold execOp;rw[hop];simp only[aS4,e1',aS5,aS7]
 ·rw[e4];simp only[aE.ext];rw[aTw _ _ (aSl _)];simp[hH]
end
def oM(toks:List Tk)(s:PS):Option PS:=cJ toks ⟨s.pos,[⟨0,[]⟩],false⟩
section
variable{toks:List Tk}{ip b:Nat}{s:PS}{F F0:List Nat}{H0 H H' L:aC}{o:AObj}
theorem mT(p:eJ toks ip s F H)(f:Fr F0 F H0 H)(g:Fr [] [] H H'):∃F',(∀x,x∉F->x∉F')/\eJ toks ip s F' H'/\Fr F0 F' H0 H':=
 ⟨F,λ_ h=>h,p.fr λi hi=>g.same i (p.lt i hi) z6,aSm f.len g.len,λi h1 h2=>(g.same i (aSn h1 f.len) z6).trans (f.same i h1 h2),f.ids⟩
theorem rW(p:eJ toks ip s F H)(f:Fr F0 F H0 H)(g:Fr [] [] (H++L) H'):∃F',(∀x,x∉F->x∉F')/\eJ toks ip s F' H'/\Fr F0 F' H0 H':=mT (p.app L) (f.app L) g
theorem BK(p:eJ toks ip s F H)(g:Fr [] [] H H'):eJ toks ip s F H':=p.fr λi hi=>g.same i (p.lt i hi) z6
theorem OM(p:eJ toks ip s F H)(g:Fr [] [] (H++L) H'):eJ toks ip s F H':=BK (p.app L) g
theorem cZ{F':List Nat}(g:Fr [] [] H H')(h:H[b]? =some o)(hn:b∉F)(nf:∀x,x∉F->x∉F'):H'[b]? =some o/\b∉F':=⟨(g.get h z6).1,nf _ hn⟩
theorem nF{l:List (Nat×AObj)}(h:eW ((b,o)::l) s F H):H[b]? =some o/\b∉F:=h.1
theorem JD{α:Type}{m:Option α}{x:α}(h:m=some x):(m.bind λs=>some s)=some x:=by rw[h];rfl
end
def lO(c:PS->Bool)(e b:PS->Option PS):Nat->PS->Option PS
 |0,_=>none
 |n+1,s=>if c s=true then((e s).bind b).bind (lO c e b n)else e s
def IU(t:Tk):Bool:=(decide (t.kind=103)||decide (t.kind=105))||eI t [[116,114,117,101],[102,97,108,115,101],[109,117,116]]
def vI:Nat->List (List UInt8)
 |0=> [[124,124]]
 |1=> [[38,38]]
 |2=> [[61,61],[60]]
 |3=> [[43],[45]]
 |4=> [[42],[47]]
 |_=> []
theorem RT(l:Nat):(vI l).length<=maxLen:=by
 have:(vI l).length<=2:=by unfold vI;split<;>simp
 exact aSm this z7
def lW:List (List UInt8):= [[117,115,101],[102,110],[115,116,114,117,99,116],[101,110,117,109],[116,114,97,105,116],[105,109,112,108],[99,111,110,115,116],[109,97,99,114,111]]
def bI(t:List UInt8):Int:=if uN (λx=>decide (t=x)) lW<0 then 0 else 2+uN (λx=>decide (t=x)) lW
theorem LJ(l:Nat)(hl:l<5){H:aC}:aN Tryz.prog 275 [.int .i64 (l:Nat)] H λr' H'=>r'= .slice ((vI l).map PV.str) .none/\H'=H:=by
 refine gK (N:=12) Tryz.func275 rfl rfl z6 (cQ _ _) λhb'=> ?_;refine nV ?_;obtain rfl|rfl|rfl|rfl|rfl:l=0\/l=1\/l=2\/l=3\/l=4:=z8
 ·
  refine qE (a3 y9 fQ YG) ?_;refine wQ ?_;refine wT ⟨.inr rfl,_,_,rfl, ?_,ZW⟩;simp only[jN,seval,aB,qC]
  try rfl
 ·
  refine qE (a3 y9 fQ YG) ?_;refine wQ ?_;refine wT ⟨.inr rfl,_,_,rfl, ?_,ZW⟩;simp only[jN,seval,aB,qC]
  try rfl
 ·
  refine qE (a3 y9 fQ YG) ?_;refine wQ ?_;refine wT ⟨.inr rfl,_,_,rfl, ?_,ZW⟩;simp only[jN,seval,aB,qC]
  try rfl
 ·
  refine qE (a3 y9 fQ YG) ?_;refine wQ ?_;refine wT ⟨.inr rfl,_,_,rfl, ?_,ZW⟩;simp only[jN,seval,aB,qC]
  try rfl
 ·
  refine qE (a3 y9 fQ YG) ?_;refine wQ ?_;refine wT ⟨.inr rfl,_,_,rfl, ?_,ZW⟩;simp only[jN,seval,aB,qC]
  try rfl
theorem CL:Lib.fields [117,115,101,32,102,110,32,115,116,114,117,99,116,32,101,110,117,109,32,116,114,97,105,116,32,105,109,112,108,32,99,111,110,115,116,32,109,97,99,114,111]=lW:=by kernel_rfl
theorem ER{H:aC}(hG:H[0]? =some gO)(t:List UInt8):aN Tryz.prog 95 [.str t] H λr' H'=>r'= .int .i64 (bI t)/\H'=H:=by
 have hk:=yQ [117,115,101,32,102,110,32,115,116,114,117,99,116,32,101,110,117,109,32,116,114,97,105,116,32,105,109,112,108,32,99,111,110,115,116,32,109,97,99,114,111] z7 z7 (by rw[CL];decide) hG;rw[CL]at hk;have hi1:=TL (p:=λx=>decide (t=x)) (xs:=lW);have hle:(lW.length:Int)=8:=rfl;refine gK (N:=11) Tryz.func95 rfl rfl z6 ((.int _ _)) λhb'=> ?_;refine nV ?_;refine wQ ?_;refine wR ?_;refine oP (KU tN) (mL tN) z7 EG hk ?_;refine qU0 1 ?_;refine KW RH (MR lW t z7 _) ?_;refine OI ?_;refine qE y3 ?_;refine GR (λbt8=> ?_) (λbt8=> ?_)
 ·
  have hb:=of_decide_eq_true bt8;have hz:bI t=0:=by unfold bI;rw[if_pos hb]
  refine nV ?_;refine wQ ?_;refine wT ⟨.inr rfl,_,_,rfl, ?_,ZW⟩;rw[hz];simp only[jN,seval,aB,qC]
  try rfl
 ·
  have hb:=of_decide_eq_false bt8;have hz:bI t=2+uN (λx=>decide (t=x)) lW:=by unfold bI;rw[if_neg hb]
  have gw:IntKind.i64.wrap (2+uN (λx=>decide (t=x)) lW)=2+uN (λx=>decide (t=x)) lW:=by rw[aY z8 z8]
  refine qK ?_;refine qE (a2 y3 gw) ?_;refine wQ ?_;refine wT ⟨.inr rfl,_,_,rfl, ?_,ZW⟩;rw[hz];simp only[jN,seval,aB,qC]
  try rfl
theorem NK{H:aC}{ip pos:Nat}{toks:List Tk}{st:PV}(hp:H[ip]? =some (.row [.slice (toks.map Tk.enc) .none, .int .i64 (pos:Nat),st]))(hl:toks.length<=4611686018427387904)(hpos:pos<=toks.length):aN Tryz.prog 345 [.optr ip 0] H λr' H'=>r'= .bool (IU (aG toks pos))/\H'=H:=by
 have q:∀L,(H++L)[ip]? =some (.row [.slice (toks.map Tk.enc) .none, .int .i64 (pos:Nat),st]):=λL=>by rw[aSv (lG hp)];exact hp
 have hip:=lG hp;have ff:∀k,(ip=H.length+k)=False:=λk=>by simp;omega
 have ff0:(ip=H.length)=False:=by simp;omega
 refine gK (N:=16) Tryz.func345 rfl rfl z6 ((.bool _)) λhb'=> ?_;have x1:=a3 q ff ff0;refine ZE x1 ?_;refine wQ ?_;refine wR ?_;refine bO ?_;refine OH 1 x1 ?_;refine RN x1 mK (λhc=>fA (by first|exact hp|exact aA hp _) hl hpos) ?_;refine OH 2 x1 ?_;refine RN x1 AU (λhc=>xE (by first|exact hp|exact aA hp _) hl hpos) ?_;refine FB 6 (by simp only[jG,jO,jN,seval,y3,y9,fQ,lT,aB,q,ff,ff0]<;>with_reducible rfl) z7 ?_;refine pP (by simp only[kE,seval,aB,q,ff,ff0]<;>with_reducible rfl) (by simp only[kE,seval,aB,q,ff,ff0]<;>with_reducible rfl) (by simp only[kE,seval,aB,q,ff,ff0]) z7 dJ (λhc=>fM (by first|exact hp|exact aA hp _) hl hpos [[116,114,117,101],[102,97,108,115,101],[109,117,116]] z7) ?_;refine ZgX x1 ?_;refine wQ ?_;refine wT ⟨.inr rfl,_,_,rfl, ?_,ZW⟩;simp only[jN,seval,aB]
 try rfl
theorem vO{toks:List Tk}{ip:Nat}{s sq:PS}{F0:List Nat}{H0:aC}(hm:oM toks s=some sq)(p0:eJ toks ip s F0 H0):
  aN Tryz.prog 94 [.optr ip 0] H0 λr H'=>∃iq Fq,r= .optr iq 0/\eJ toks iq sq Fq H'/\Fr [] [] H0 H':=by
 have hl:=aV p0.len;have hlim:=p0.len;have hpos:=p0.pos;obtain⟨st0,h1⟩:=p0.row;have q1:=aA h1;have hip:=lG h1;have nip:∀k,(ip=H0.length+k)=False:=λk=>by simp;omega
 have nip0:(ip=H0.length)=False:=by simp;omega
 have nib:∀k,(H0.length+k==ip)=false:=λk=>by simp;omega
 have nib2:(H0.length==ip)=false:=by simp;omega
 refine aF (N:=19) Tryz.func94 rfl rfl z6 λhb'=> ?_;have x1:=a5 h1 q1 nip nip0 (a2 nib nib2);refine ZE x1 ?_;refine wQ ?_;refine lU 2 (by kernel_rfl) ?_;refine tF (bm:= [0,1,3,7,0,16,48,112,0,256,1023,2047,4095]) 9 (fresh:=(H0.length+1)) (by kernel_rfl) (Zd (a5 y3 dM JZ gF (a2 lT x1))) z7 z7 ?_;refine XZ (bm:= [0,1,3,7,0,16,48,112,0,256,1023,2047,4095]) H0.length (t:=65) (n:=1) (es:= [.agg [.int .i64 0, .str [], .slice [] .full]]) (by kernel_rfl) z6 (by simp only[kC,seval,aB,h1,q1,nip,nip0,nib,nib2]) rfl z7 eB tY rfl z7 z7 z7 (by simp only[kC,seval,aB,h1,q1,nip,nip0,nib,nib2,iF,dM,fS,fR]<;>first|done|rfl) (by simp only[jD,jO,jN,seval,aB,h1,q1,nip,nip0,nib,nib2]<;>first|done|rfl) ?_;rw[show ∀o,(H0++ [AObj.unborn,AObj.unborn]).set H0.length o=H0++ [o,AObj.unborn]from λo=>z6];refine kU (bm:= [0,1,3,7,0,16,48,112,0,256,1023,2047,4095]) (fresh:=(H0.length+1)) (by kernel_rfl) (Zd (a2 gF x1)) z7 ?_;have pn:eJ toks (H0.length+1) ⟨s.pos,[⟨0,[]⟩],false⟩ [H0.length+1,H0.length] (H0++ [.row (aH [.agg [.int .i64 0, .str [], .slice [] .full]]), .row [.slice (toks.map Tk.enc) .none, .int .i64 (s.pos:Nat), .msl H0.length 0 1 1]]):=⟨H0.length,1,[.int .i64 0, .str [], .slice [] .full],[],[],z6,by simp[aH,PV.cells],rfl,z7,mN.cons (f:=⟨0,[]⟩) .nil .nil (λi hi=>by cases hi),rfl,z8,z6,z6,hpos,hlim⟩
 ·
  refine ZT 1 x1 ?_;refine ZA x1 nC (FN.ap0 (cC toks (H0.length+1)) hm pn) ?_;rintro _ H1 ⟨rfl,F1,p1,g1⟩;refine oN ?_;refine ZL [3] x1 ?_;refine ZE x1 ?_;refine wQ ?_;refine wT ⟨.inr rfl,_,rfl, ?_⟩;refine⟨H0.length+1,F1,rfl,p1,⟨by have:=g1.len;simp at this;omega,λi hi _=> ?_,λi hi _=>by cases hi⟩⟩;rw[g1.same i (by simp;omega) (by simp;omega),aSv hi]
theorem DX{toks:List Tk}{ip:Nat}{s sq:PS}{F0:List Nat}{H0:aC}(hm:oM toks s=some sq)(p0:eJ toks ip s F0 H0)(L:aC):
  aN Tryz.prog 94 [.optr ip 0] (H0++L) λr H'=>∃iq Fq,r= .optr iq 0/\eJ toks iq sq Fq H'/\Fr [] [] (H0++L) H':=vO hm (p0.app L)
def aE9(toks:List Tk)(n:Nat)(R:dP)(s0:PS):Option PS:=((R (.binary 0)) s0).bind λs1=>some s1
theorem YA{toks:List Tk}{ip n:Nat}{R:dP}(IH:lD toks ip R):FG toks ip 164 [.optr ip 0] (aE9 toks n R) (CD .expr):=by
 intro s0 s' F0 H0 hm p0 i0;obtain⟨⟨hg,n0a⟩,_⟩:=i0;obtain⟨st0,r0⟩:=p0.row;have hl:=aV p0.len;have f0:=Fr.refl F0 H0;have k0a:=hg;unfold aE9 at hm;refine aF (N:=4) Tryz.func164 rfl rfl z6 λhb'=> ?_;obtain⟨s1,e1,hm⟩:=oB hm;refine qW 1 (w2 r0 k0a) (FG.apX (IH (.binary 0)) e1 p0 ⟨k0a,n0a⟩) ?_;rintro _ H1 ⟨rfl,F1,p1,g1⟩;obtain⟨f1,⟨st1,r1⟩,⟨k1a,n1a⟩⟩:=kH f0 p1 g1 k0a n0a;refine dL ?_;injection hm with hm;subst hm;exact bJ p1 f1
def aJe(toks:List Tk)(n:Nat)(R:dP)(s0:PS):Option PS:=((cJ toks) s0).bind λs1=>if eI (aG toks s1.pos) [[59]]=true then(((oH 0) s1).bind λs2=>((bP toks [59]) s2).bind λs3=>some s3)else(((R .expr) s1).bind λs2=>((bP toks [59]) s2).bind λs3=>some s3)
theorem aH2{toks:List Tk}{ip n:Nat}{R:dP}(IH:lD toks ip R):FG toks ip 294 [.optr ip 0] (aJe toks n R) (CD .returnStmt):=by
 intro s0 s' F0 H0 hm p0 i0;obtain⟨⟨hg,n0a⟩,_⟩:=i0;obtain⟨st0,r0⟩:=p0.row;have hl:=aV p0.len;have f0:=Fr.refl F0 H0;have k0a:=hg;unfold aJe at hm;refine aF (N:=13) Tryz.func294 rfl rfl z6 λhb'=> ?_;obtain⟨s1,e1,hm⟩:=oB hm;refine qW 1 (w2 r0 k0a) (FN.apX (cC toks ip) e1 p0) ?_;rintro _ H1 ⟨rfl,F1,p1,g1⟩;obtain⟨f1,⟨st1,r1⟩,⟨k1a,n1a⟩⟩:=kH f0 p1 g1 k0a n0a;refine qT 2 (a3 y9 fQ (w2 r1 k1a)) ?_;refine qP (w2 r1 k1a) dJ (fM (mB r1) hl p1.pos [[59]] z7) ?_;refine oN ?_;refine qI (w2 r1 k1a) (λbt6=> ?_) (λbt6=> ?_)
 ·
  rw[fZ bt6]at hm;obtain⟨s2,e2,hm⟩:=oB hm;refine qW 1 (w2 r1 k1a) (FN.apX (yK toks ip) e2 p1) ?_;rintro _ H2 ⟨rfl,F2,p2,g2⟩;obtain⟨f2,⟨st2,r2⟩,⟨k2a,n2a⟩⟩:=kH f1 p2 g2 k1a n1a;obtain⟨s3,e3,hm⟩:=oB hm;refine qW 1 (w2 r2 k2a) (FN.apX (bL toks ip [59]) e3 p2) ?_;rintro _ H3 ⟨rfl,F3,p3,g3⟩;obtain⟨f3,⟨st3,r3⟩,⟨k3a,n3a⟩⟩:=kH f2 p3 g3 k2a n2a;refine dL ?_;injection hm with hm;subst hm;exact bJ p3 f3
 ·
  rw[gI bt6]at hm;obtain⟨s2,e2,hm⟩:=oB hm;refine qW 1 (w2 r1 k1a) (FG.apX (IH .expr) e2 p1 ⟨k1a,n1a⟩) ?_;rintro _ H2 ⟨rfl,F2,p2,g2⟩;obtain⟨f2,⟨st2,r2⟩,⟨k2a,n2a⟩⟩:=kH f1 p2 g2 k1a n1a;obtain⟨s3,e3,hm⟩:=oB hm;refine qW 1 (w2 r2 k2a) (FN.apX (bL toks ip [59]) e3 p2) ?_;rintro _ H3 ⟨rfl,F3,p3,g3⟩;obtain⟨f3,⟨st3,r3⟩,⟨k3a,n3a⟩⟩:=kH f2 p3 g3 k2a n2a;refine dL ?_;injection hm with hm;subst hm;exact bJ p3 f3
def aIc(toks:List Tk)(n:Nat)(R:dP)(s0:PS):Option PS:=((cJ toks) s0).bind λs1=>((R .pattern) s1).bind λs2=>((jI toks ([58]) (R .typeExpr)) s2).bind λs3=>((bP toks [61]) s3).bind λs4=>((R .expr) s4).bind λs5=>((bP toks [59]) s5).bind λs6=>some s6
theorem aIv{toks:List Tk}{ip n:Nat}{R:dP}(IH:lD toks ip R):FG toks ip 292 [.optr ip 0] (aIc toks n R) (CD .letS):=by
 intro s0 s' F0 H0 hm p0 i0;obtain⟨⟨hg,n0a⟩,_⟩:=i0;obtain⟨st0,r0⟩:=p0.row;have hl:=aV p0.len;have f0:=Fr.refl F0 H0;have k0a:=hg;unfold aIc at hm;refine aF (N:=16) Tryz.func292 rfl rfl z6 λhb'=> ?_;obtain⟨s1,e1,hm⟩:=oB hm;refine qW 1 (w2 r0 k0a) (FN.apX (cC toks ip) e1 p0) ?_;rintro _ H1 ⟨rfl,F1,p1,g1⟩;obtain⟨f1,⟨st1,r1⟩,⟨k1a,n1a⟩⟩:=kH f0 p1 g1 k0a n0a;obtain⟨s2,e2,hm⟩:=oB hm;refine qW 1 (w2 r1 k1a) (FG.apX (IH .pattern) e2 p1 ⟨k1a,n1a⟩) ?_;rintro _ H2 ⟨rfl,F2,p2,g2⟩;obtain⟨f2,⟨st2,r2⟩,⟨k2a,n2a⟩⟩:=kH f1 p2 g2 k1a n1a;have q2:=aA r2;have b2a:=aA k2a;obtain⟨s3,e3,hm⟩:=oB hm;refine qW 3 (w2 r2 k2a) (FC.apX (mR toks ip ([58]) 163 [.optr ip 0] [] uO (dS [(0,gO)]) (FG.fc (IH .typeExpr))) e3 p2 ⟨⟨k2a,n2a⟩,trivial⟩) ?_;rintro _ H3 ⟨rfl,F3,p3,g3⟩;obtain⟨f3,⟨st3,r3⟩,⟨k3a,n3a⟩⟩:=kH f2 p3 g3 k2a n2a;obtain⟨s4,e4,hm⟩:=oB hm;refine qW 1 (w2 r3 k3a) (FN.apX (bL toks ip [61]) e4 p3) ?_;rintro _ H4 ⟨rfl,F4,p4,g4⟩;obtain⟨f4,⟨st4,r4⟩,⟨k4a,n4a⟩⟩:=kH f3 p4 g4 k3a n3a;obtain⟨s5,e5,hm⟩:=oB hm;refine qW 1 (w2 r4 k4a) (FG.apX (IH .expr) e5 p4 ⟨k4a,n4a⟩) ?_;rintro _ H5 ⟨rfl,F5,p5,g5⟩;obtain⟨f5,⟨st5,r5⟩,⟨k5a,n5a⟩⟩:=kH f4 p5 g5 k4a n4a;obtain⟨s6,e6,hm⟩:=oB hm;refine qW 1 (w2 r5 k5a) (FN.apX (bL toks ip [59]) e6 p5) ?_;rintro _ H6 ⟨rfl,F6,p6,g6⟩;obtain⟨f6,⟨st6,r6⟩,⟨k6a,n6a⟩⟩:=kH f5 p6 g6 k5a n5a;refine dL ?_;injection hm with hm;subst hm;exact bJ p6 f6
def aHg(toks:List Tk)(n:Nat)(R:dP)(s0:PS):Option PS:=((cJ toks) s0).bind λs1=>((pM toks n ([41]) (aE9 toks n R)) s1).bind λs2=>some s2
theorem aJ3{toks:List Tk}{ip n:Nat}{R:dP}(IH:lD toks ip R):FG toks ip 318 [.optr ip 0] (aHg toks n R) (CD .arguments):=by
 intro s0 s' F0 H0 hm p0 i0;obtain⟨⟨hg,n0a⟩,_⟩:=i0;obtain⟨st0,r0⟩:=p0.row;have hl:=aV p0.len;have f0:=Fr.refl F0 H0;have k0a:=hg;unfold aHg at hm;refine aF (N:=8) Tryz.func318 rfl rfl z6 λhb'=> ?_;obtain⟨s1,e1,hm⟩:=oB hm;refine qW 1 (w2 r0 k0a) (FN.apX (cC toks ip) e1 p0) ?_;rintro _ H1 ⟨rfl,F1,p1,g1⟩;obtain⟨f1,⟨st1,r1⟩,⟨k1a,n1a⟩⟩:=kH f0 p1 g1 k0a n0a;have q1:=aA r1;have b1a:=aA k1a;obtain⟨s2,e2,hm⟩:=oB hm;refine qW 3 (w2 r1 k1a) (FC.apX (rJ toks ip n ([41]) 164 [.optr ip 0] [] XV (dS [(0,gO)]) (λ_ _ _=>nF) (FG.fc (YA (n:=n) IH))) e2 p1 ⟨⟨k1a,n1a⟩,trivial⟩) ?_;rintro _ H2 ⟨rfl,F2,p2,g2⟩;obtain⟨f2,⟨st2,r2⟩,⟨k2a,n2a⟩⟩:=kH f1 p2 g2 k1a n1a;refine dL ?_;injection hm with hm;subst hm;exact bJ p2 f2
def aIl(toks:List Tk)(n:Nat)(R:dP)(s0:PS):Option PS:=((cJ toks) s0).bind λs1=>((R .unary) s1).bind λs2=>some s2
theorem aKz{toks:List Tk}{ip n:Nat}{R:dP}(IH:lD toks ip R)(b0:Nat):FC Tryz.prog toks ip 299 [.optr b0 0] (aIl toks n R) cM (eW [(0,gO),(b0, .row [.optr ip 0])]):=by
 refine eN λs0 s' F0 H0 hm p0 i0=> ?_;obtain⟨⟨k0a,n0a⟩,⟨k0b,n0b⟩,_⟩:=i0;obtain⟨st0,r0⟩:=p0.row;have hl:=aV p0.len;have f0:=Fr.refl F0 H0;unfold aIl at hm;refine aF (N:=5) Tryz.func299 rfl rfl z6 λhb'=> ?_;refine qT 1 (a2 aJ (w3 r0 k0a k0b)) ?_;obtain⟨s1,e1,hm⟩:=oB hm;refine qN (w3 r0 k0a k0b) (FN.apX (cC toks ip) e1 p0) ?_;rintro _ H1 ⟨rfl,F1,p1,g1⟩;obtain⟨f1,⟨st1,r1⟩,⟨k1a,n1a⟩,⟨k1b,n1b⟩⟩:=iN f0 p1 g1 k0a n0a k0b n0b;refine qT 1 (a2 aJ (w3 r1 k1a k1b)) ?_;obtain⟨s2,e2,hm⟩:=oB hm;refine qN (w3 r1 k1a k1b) (FG.apX (IH .unary) e2 p1 ⟨k1a,n1a⟩) ?_;rintro _ H2 ⟨rfl,F2,p2,g2⟩;obtain⟨f2,⟨st2,r2⟩,⟨k2a,n2a⟩,⟨k2b,n2b⟩⟩:=iN f1 p2 g2 k1a n1a k1b n1b;refine dL ?_;injection hm with hm;subst hm;exact bJ p2 f2
def aNk(toks:List Tk)(n:Nat)(R:dP)(s0:PS):Option PS:=((cJ toks) s0).bind λs1=>((cH toks [[109,117,116]]) s1).bind λs2=>((R .unary) s2).bind λs3=>some s3
theorem aLh{toks:List Tk}{ip n:Nat}{R:dP}(IH:lD toks ip R)(b0:Nat):FC Tryz.prog toks ip 300 [.optr b0 0] (aNk toks n R) cM (eW [(0,gO),(b0, .row [.optr ip 0])]):=by
 refine eN λs0 s' F0 H0 hm p0 i0=> ?_;obtain⟨⟨k0a,n0a⟩,⟨k0b,n0b⟩,_⟩:=i0;obtain⟨st0,r0⟩:=p0.row;have hl:=aV p0.len;have f0:=Fr.refl F0 H0;unfold aNk at hm;refine aF (N:=8) Tryz.func300 rfl rfl z6 λhb'=> ?_;refine qT 1 (a2 aJ (w3 r0 k0a k0b)) ?_;obtain⟨s1,e1,hm⟩:=oB hm;refine qN (w3 r0 k0a k0b) (FN.apX (cC toks ip) e1 p0) ?_;rintro _ H1 ⟨rfl,F1,p1,g1⟩;obtain⟨f1,⟨st1,r1⟩,⟨k1a,n1a⟩,⟨k1b,n1b⟩⟩:=iN f0 p1 g1 k0a n0a k0b n0b;refine qT 2 (a4 y9 aJ fQ (w3 r1 k1a k1b)) ?_;obtain⟨s2,e2,hm⟩:=oB hm;refine qN (w3 r1 k1a k1b) (FN.apX (eG toks ip [[109,117,116]] z7) e2 p1) ?_;rintro _ H2 ⟨rfl,F2,p2,g2⟩;obtain⟨f2,⟨st2,r2⟩,⟨k2a,n2a⟩,⟨k2b,n2b⟩⟩:=iN f1 p2 g2 k1a n1a k1b n1b;refine qT 1 (a2 aJ (w3 r2 k2a k2b)) ?_;obtain⟨s3,e3,hm⟩:=oB hm;refine qN (w3 r2 k2a k2b) (FG.apX (IH .unary) e3 p2 ⟨k2a,n2a⟩) ?_;rintro _ H3 ⟨rfl,F3,p3,g3⟩;obtain⟨f3,⟨st3,r3⟩,⟨k3a,n3a⟩,⟨k3b,n3b⟩⟩:=iN f2 p3 g3 k2a n2a k2b n2b;refine dL ?_;injection hm with hm;subst hm;exact bJ p3 f3
def aFr(toks:List Tk)(n:Nat)(R:dP)(s0:PS):Option PS:=((cJ toks) s0).bind λs1=>((cJ toks) s1).bind λs2=>((R .arguments) s2).bind λs3=>some s3
theorem aLg{toks:List Tk}{ip n:Nat}{R:dP}(IH:lD toks ip R)(b0:Nat):FC Tryz.prog toks ip 325 [.optr b0 0] (aFr toks n R) cM (eW [(0,gO),(b0, .row [.optr ip 0])]):=by
 refine eN λs0 s' F0 H0 hm p0 i0=> ?_;obtain⟨⟨k0a,n0a⟩,⟨k0b,n0b⟩,_⟩:=i0;obtain⟨st0,r0⟩:=p0.row;have hl:=aV p0.len;have f0:=Fr.refl F0 H0;unfold aFr at hm;refine aF (N:=7) Tryz.func325 rfl rfl z6 λhb'=> ?_;refine qT 1 (a2 aJ (w3 r0 k0a k0b)) ?_;obtain⟨s1,e1,hm⟩:=oB hm;refine qN (w3 r0 k0a k0b) (FN.apX (cC toks ip) e1 p0) ?_;rintro _ H1 ⟨rfl,F1,p1,g1⟩;obtain⟨f1,⟨st1,r1⟩,⟨k1a,n1a⟩,⟨k1b,n1b⟩⟩:=iN f0 p1 g1 k0a n0a k0b n0b;refine qT 1 (a2 aJ (w3 r1 k1a k1b)) ?_;obtain⟨s2,e2,hm⟩:=oB hm;refine qN (w3 r1 k1a k1b) (FN.apX (cC toks ip) e2 p1) ?_;rintro _ H2 ⟨rfl,F2,p2,g2⟩;obtain⟨f2,⟨st2,r2⟩,⟨k2a,n2a⟩,⟨k2b,n2b⟩⟩:=iN f1 p2 g2 k1a n1a k1b n1b;refine qT 1 (a2 aJ (w3 r2 k2a k2b)) ?_;obtain⟨s3,e3,hm⟩:=oB hm;refine qN (w3 r2 k2a k2b) (FG.apX (IH .arguments) e3 p2 ⟨k2a,n2a⟩) ?_;rintro _ H3 ⟨rfl,F3,p3,g3⟩;obtain⟨f3,⟨st3,r3⟩,⟨k3a,n3a⟩,⟨k3b,n3b⟩⟩:=iN f2 p3 g3 k2a n2a k2b n2b;refine dL ?_;injection hm with hm;subst hm;exact bJ p3 f3
def WO(toks:List Tk)(n:Nat)(R:dP)(s0:PS):Option PS:=((cJ toks) s0).bind λs1=>((bK toks) s1).bind λs2=>some s2
theorem aAk{toks:List Tk}{ip n:Nat}{R:dP}(IH:lD toks ip R)(b0:Nat):FC Tryz.prog toks ip 326 [.optr b0 0] (WO toks n R) cM (eW [(0,gO),(b0, .row [.optr ip 0])]):=by
 refine eN λs0 s' F0 H0 hm p0 i0=> ?_;obtain⟨⟨k0a,n0a⟩,⟨k0b,n0b⟩,_⟩:=i0;obtain⟨st0,r0⟩:=p0.row;have hl:=aV p0.len;have f0:=Fr.refl F0 H0;unfold WO at hm;refine aF (N:=5) Tryz.func326 rfl rfl z6 λhb'=> ?_;refine qT 1 (a2 aJ (w3 r0 k0a k0b)) ?_;obtain⟨s1,e1,hm⟩:=oB hm;refine qN (w3 r0 k0a k0b) (FN.apX (cC toks ip) e1 p0) ?_;rintro _ H1 ⟨rfl,F1,p1,g1⟩;obtain⟨f1,⟨st1,r1⟩,⟨k1a,n1a⟩,⟨k1b,n1b⟩⟩:=iN f0 p1 g1 k0a n0a k0b n0b;refine qT 1 (a2 aJ (w3 r1 k1a k1b)) ?_;obtain⟨s2,e2,hm⟩:=oB hm;refine qN (w3 r1 k1a k1b) (FN.apX (cI toks ip) e2 p1) ?_;rintro _ H2 ⟨rfl,F2,p2,g2⟩;obtain⟨f2,⟨st2,r2⟩,⟨k2a,n2a⟩,⟨k2b,n2b⟩⟩:=iN f1 p2 g2 k1a n1a k1b n1b;refine dL ?_;injection hm with hm;subst hm;exact bJ p2 f2
def aN5(toks:List Tk)(n:Nat)(R:dP)(s0:PS):Option PS:=((cJ toks) s0).bind λs1=>((R .arguments) s1).bind λs2=>some s2
theorem aKs{toks:List Tk}{ip n:Nat}{R:dP}(IH:lD toks ip R)(b0:Nat):FC Tryz.prog toks ip 317 [.optr b0 0] (aN5 toks n R) cM (eW [(0,gO),(b0, .row [.optr ip 0])]):=by
 refine eN λs0 s' F0 H0 hm p0 i0=> ?_;obtain⟨⟨k0a,n0a⟩,⟨k0b,n0b⟩,_⟩:=i0;obtain⟨st0,r0⟩:=p0.row;have hl:=aV p0.len;have f0:=Fr.refl F0 H0;unfold aN5 at hm;refine aF (N:=5) Tryz.func317 rfl rfl z6 λhb'=> ?_;refine qT 1 (a2 aJ (w3 r0 k0a k0b)) ?_;obtain⟨s1,e1,hm⟩:=oB hm;refine qN (w3 r0 k0a k0b) (FN.apX (cC toks ip) e1 p0) ?_;rintro _ H1 ⟨rfl,F1,p1,g1⟩;obtain⟨f1,⟨st1,r1⟩,⟨k1a,n1a⟩,⟨k1b,n1b⟩⟩:=iN f0 p1 g1 k0a n0a k0b n0b;refine qT 1 (a2 aJ (w3 r1 k1a k1b)) ?_;obtain⟨s2,e2,hm⟩:=oB hm;refine qN (w3 r1 k1a k1b) (FG.apX (IH .arguments) e2 p1 ⟨k1a,n1a⟩) ?_;rintro _ H2 ⟨rfl,F2,p2,g2⟩;obtain⟨f2,⟨st2,r2⟩,⟨k2a,n2a⟩,⟨k2b,n2b⟩⟩:=iN f1 p2 g2 k1a n1a k1b n1b;refine dL ?_;injection hm with hm;subst hm;exact bJ p2 f2
def aJ7(toks:List Tk)(n:Nat)(R:dP)(s0:PS):Option PS:=((cJ toks) s0).bind λs1=>((R .expr) s1).bind λs2=>((bP toks [41]) s2).bind λs3=>some s3
theorem aNs{toks:List Tk}{ip n:Nat}{R:dP}(IH:lD toks ip R)(b0:Nat):FC Tryz.prog toks ip 319 [.optr b0 0] (aJ7 toks n R) cM (eW [(0,gO),(b0, .row [.optr ip 0])]):=by
 refine eN λs0 s' F0 H0 hm p0 i0=> ?_;obtain⟨⟨k0a,n0a⟩,⟨k0b,n0b⟩,_⟩:=i0;obtain⟨st0,r0⟩:=p0.row;have hl:=aV p0.len;have f0:=Fr.refl F0 H0;unfold aJ7 at hm;refine aF (N:=7) Tryz.func319 rfl rfl z6 λhb'=> ?_;refine qT 1 (a2 aJ (w3 r0 k0a k0b)) ?_;obtain⟨s1,e1,hm⟩:=oB hm;refine qN (w3 r0 k0a k0b) (FN.apX (cC toks ip) e1 p0) ?_;rintro _ H1 ⟨rfl,F1,p1,g1⟩;obtain⟨f1,⟨st1,r1⟩,⟨k1a,n1a⟩,⟨k1b,n1b⟩⟩:=iN f0 p1 g1 k0a n0a k0b n0b;refine qT 1 (a2 aJ (w3 r1 k1a k1b)) ?_;obtain⟨s2,e2,hm⟩:=oB hm;refine qN (w3 r1 k1a k1b) (FG.apX (IH .expr) e2 p1 ⟨k1a,n1a⟩) ?_;rintro _ H2 ⟨rfl,F2,p2,g2⟩;obtain⟨f2,⟨st2,r2⟩,⟨k2a,n2a⟩,⟨k2b,n2b⟩⟩:=iN f1 p2 g2 k1a n1a k1b n1b;refine qT 1 (a2 aJ (w3 r2 k2a k2b)) ?_;obtain⟨s3,e3,hm⟩:=oB hm;refine qN (w3 r2 k2a k2b) (FN.apX (bL toks ip [41]) e3 p2) ?_;rintro _ H3 ⟨rfl,F3,p3,g3⟩;obtain⟨f3,⟨st3,r3⟩,⟨k3a,n3a⟩,⟨k3b,n3b⟩⟩:=iN f2 p3 g3 k2a n2a k2b n2b;refine dL ?_;injection hm with hm;subst hm;exact bJ p3 f3
def aAo(toks:List Tk)(n:Nat)(R:dP)(s0:PS):Option PS:=((cJ toks) s0).bind λs1=>((R .expr) s1).bind λs2=>((bP toks [59]) s2).bind λs3=>some s3
theorem aAd{toks:List Tk}{ip n:Nat}{R:dP}(IH:lD toks ip R)(b0:Nat):FC Tryz.prog toks ip 296 [.optr b0 0] (aAo toks n R) cM (eW [(0,gO),(b0, .row [.optr ip 0])]):=by
 refine eN λs0 s' F0 H0 hm p0 i0=> ?_;obtain⟨⟨k0a,n0a⟩,⟨k0b,n0b⟩,_⟩:=i0;obtain⟨st0,r0⟩:=p0.row;have hl:=aV p0.len;have f0:=Fr.refl F0 H0;unfold aAo at hm;refine aF (N:=7) Tryz.func296 rfl rfl z6 λhb'=> ?_;refine qT 1 (a2 aJ (w3 r0 k0a k0b)) ?_;obtain⟨s1,e1,hm⟩:=oB hm;refine qN (w3 r0 k0a k0b) (FN.apX (cC toks ip) e1 p0) ?_;rintro _ H1 ⟨rfl,F1,p1,g1⟩;obtain⟨f1,⟨st1,r1⟩,⟨k1a,n1a⟩,⟨k1b,n1b⟩⟩:=iN f0 p1 g1 k0a n0a k0b n0b;refine qT 1 (a2 aJ (w3 r1 k1a k1b)) ?_;obtain⟨s2,e2,hm⟩:=oB hm;refine qN (w3 r1 k1a k1b) (FG.apX (IH .expr) e2 p1 ⟨k1a,n1a⟩) ?_;rintro _ H2 ⟨rfl,F2,p2,g2⟩;obtain⟨f2,⟨st2,r2⟩,⟨k2a,n2a⟩,⟨k2b,n2b⟩⟩:=iN f1 p2 g2 k1a n1a k1b n1b;refine qT 1 (a2 aJ (w3 r2 k2a k2b)) ?_;obtain⟨s3,e3,hm⟩:=oB hm;refine qN (w3 r2 k2a k2b) (FN.apX (bL toks ip [59]) e3 p2) ?_;rintro _ H3 ⟨rfl,F3,p3,g3⟩;obtain⟨f3,⟨st3,r3⟩,⟨k3a,n3a⟩,⟨k3b,n3b⟩⟩:=iN f2 p3 g3 k2a n2a k2b n2b;refine dL ?_;injection hm with hm;subst hm;exact bJ p3 f3
def aN0(toks:List Tk)(n:Nat)(R:dP)(s0:PS):Option PS:=((cJ toks) s0).bind λs1=>((R .expr) s1).bind λs2=>((R .block) s2).bind λs3=>some s3
theorem aJv{toks:List Tk}{ip n:Nat}{R:dP}(IH:lD toks ip R)(b0:Nat):FC Tryz.prog toks ip 293 [.optr b0 0] (aN0 toks n R) cM (eW [(0,gO),(b0, .row [.optr ip 0])]):=by
 refine eN λs0 s' F0 H0 hm p0 i0=> ?_;obtain⟨⟨k0a,n0a⟩,⟨k0b,n0b⟩,_⟩:=i0;obtain⟨st0,r0⟩:=p0.row;have hl:=aV p0.len;have f0:=Fr.refl F0 H0;unfold aN0 at hm;refine aF (N:=7) Tryz.func293 rfl rfl z6 λhb'=> ?_;refine qT 1 (a2 aJ (w3 r0 k0a k0b)) ?_;obtain⟨s1,e1,hm⟩:=oB hm;refine qN (w3 r0 k0a k0b) (FN.apX (cC toks ip) e1 p0) ?_;rintro _ H1 ⟨rfl,F1,p1,g1⟩;obtain⟨f1,⟨st1,r1⟩,⟨k1a,n1a⟩,⟨k1b,n1b⟩⟩:=iN f0 p1 g1 k0a n0a k0b n0b;refine qT 1 (a2 aJ (w3 r1 k1a k1b)) ?_;obtain⟨s2,e2,hm⟩:=oB hm;refine qN (w3 r1 k1a k1b) (FG.apX (IH .expr) e2 p1 ⟨k1a,n1a⟩) ?_;rintro _ H2 ⟨rfl,F2,p2,g2⟩;obtain⟨f2,⟨st2,r2⟩,⟨k2a,n2a⟩,⟨k2b,n2b⟩⟩:=iN f1 p2 g2 k1a n1a k1b n1b;refine qT 1 (a2 aJ (w3 r2 k2a k2b)) ?_;obtain⟨s3,e3,hm⟩:=oB hm;refine qN (w3 r2 k2a k2b) (FG.apX (IH .block) e3 p2 ⟨k2a,n2a⟩) ?_;rintro _ H3 ⟨rfl,F3,p3,g3⟩;obtain⟨f3,⟨st3,r3⟩,⟨k3a,n3a⟩,⟨k3b,n3b⟩⟩:=iN f2 p3 g3 k2a n2a k2b n2b;refine dL ?_;injection hm with hm;subst hm;exact bJ p3 f3
def aIi(toks:List Tk)(n:Nat)(R:dP)(s0:PS):Option PS:=((cJ toks) s0).bind λs1=>((bK toks) s1).bind λs2=>some s2
theorem aHx{toks:List Tk}{ip n:Nat}{R:dP}(IH:lD toks ip R)(b0:Nat):FC Tryz.prog toks ip 340 [.optr b0 0] (aIi toks n R) cM (eW [(0,gO),(b0, .row [.optr ip 0])]):=by
 refine eN λs0 s' F0 H0 hm p0 i0=> ?_;obtain⟨⟨k0a,n0a⟩,⟨k0b,n0b⟩,_⟩:=i0;obtain⟨st0,r0⟩:=p0.row;have hl:=aV p0.len;have f0:=Fr.refl F0 H0;unfold aIi at hm;refine aF (N:=5) Tryz.func340 rfl rfl z6 λhb'=> ?_;refine qT 1 (a2 aJ (w3 r0 k0a k0b)) ?_;obtain⟨s1,e1,hm⟩:=oB hm;refine qN (w3 r0 k0a k0b) (FN.apX (cC toks ip) e1 p0) ?_;rintro _ H1 ⟨rfl,F1,p1,g1⟩;obtain⟨f1,⟨st1,r1⟩,⟨k1a,n1a⟩,⟨k1b,n1b⟩⟩:=iN f0 p1 g1 k0a n0a k0b n0b;refine qT 1 (a2 aJ (w3 r1 k1a k1b)) ?_;obtain⟨s2,e2,hm⟩:=oB hm;refine qN (w3 r1 k1a k1b) (FN.apX (cI toks ip) e2 p1) ?_;rintro _ H2 ⟨rfl,F2,p2,g2⟩;obtain⟨f2,⟨st2,r2⟩,⟨k2a,n2a⟩,⟨k2b,n2b⟩⟩:=iN f1 p2 g2 k1a n1a k1b n1b;refine dL ?_;injection hm with hm;subst hm;exact bJ p2 f2
def aHd(toks:List Tk)(n:Nat)(R:dP)(s0:PS):Option PS:=((R .pattern) s0).bind λs1=>((bP toks [61,62]) s1).bind λs2=>((R .expr) s2).bind λs3=>some s3
theorem aH3{toks:List Tk}{ip n:Nat}{R:dP}(IH:lD toks ip R)(b0:Nat):FC Tryz.prog toks ip 346 [.optr b0 0] (aHd toks n R) cM (eW [(0,gO),(b0, .row [.optr ip 0])]):=by
 refine eN λs0 s' F0 H0 hm p0 i0=> ?_;obtain⟨⟨k0a,n0a⟩,⟨k0b,n0b⟩,_⟩:=i0;obtain⟨st0,r0⟩:=p0.row;have hl:=aV p0.len;have f0:=Fr.refl F0 H0;unfold aHd at hm;refine aF (N:=7) Tryz.func346 rfl rfl z6 λhb'=> ?_;refine qT 1 (a2 aJ (w3 r0 k0a k0b)) ?_;obtain⟨s1,e1,hm⟩:=oB hm;refine qN (w3 r0 k0a k0b) (FG.apX (IH .pattern) e1 p0 ⟨k0a,n0a⟩) ?_;rintro _ H1 ⟨rfl,F1,p1,g1⟩;obtain⟨f1,⟨st1,r1⟩,⟨k1a,n1a⟩,⟨k1b,n1b⟩⟩:=iN f0 p1 g1 k0a n0a k0b n0b;refine qT 1 (a2 aJ (w3 r1 k1a k1b)) ?_;obtain⟨s2,e2,hm⟩:=oB hm;refine qN (w3 r1 k1a k1b) (FN.apX (bL toks ip [61,62]) e2 p1) ?_;rintro _ H2 ⟨rfl,F2,p2,g2⟩;obtain⟨f2,⟨st2,r2⟩,⟨k2a,n2a⟩,⟨k2b,n2b⟩⟩:=iN f1 p2 g2 k1a n1a k1b n1b;refine qT 1 (a2 aJ (w3 r2 k2a k2b)) ?_;obtain⟨s3,e3,hm⟩:=oB hm;refine qN (w3 r2 k2a k2b) (FG.apX (IH .expr) e3 p2 ⟨k2a,n2a⟩) ?_;rintro _ H3 ⟨rfl,F3,p3,g3⟩;obtain⟨f3,⟨st3,r3⟩,⟨k3a,n3a⟩,⟨k3b,n3b⟩⟩:=iN f2 p3 g3 k2a n2a k2b n2b;refine dL ?_;injection hm with hm;subst hm;exact bJ p3 f3
def aJd(toks:List Tk)(n:Nat)(R:dP)(s0:PS):Option PS:=((cJ toks) s0).bind λs1=>((bP toks [58]) s1).bind λs2=>((R .expr) s2).bind λs3=>some s3
theorem aI0{toks:List Tk}{ip n:Nat}{R:dP}(IH:lD toks ip R)(b0:Nat):FC Tryz.prog toks ip 348 [.optr b0 0] (aJd toks n R) cM (eW [(0,gO),(b0, .row [.optr ip 0])]):=by
 refine eN λs0 s' F0 H0 hm p0 i0=> ?_;obtain⟨⟨k0a,n0a⟩,⟨k0b,n0b⟩,_⟩:=i0;obtain⟨st0,r0⟩:=p0.row;have hl:=aV p0.len;have f0:=Fr.refl F0 H0;unfold aJd at hm;refine aF (N:=7) Tryz.func348 rfl rfl z6 λhb'=> ?_;refine qT 1 (a2 aJ (w3 r0 k0a k0b)) ?_;obtain⟨s1,e1,hm⟩:=oB hm;refine qN (w3 r0 k0a k0b) (FN.apX (cC toks ip) e1 p0) ?_;rintro _ H1 ⟨rfl,F1,p1,g1⟩;obtain⟨f1,⟨st1,r1⟩,⟨k1a,n1a⟩,⟨k1b,n1b⟩⟩:=iN f0 p1 g1 k0a n0a k0b n0b;refine qT 1 (a2 aJ (w3 r1 k1a k1b)) ?_;obtain⟨s2,e2,hm⟩:=oB hm;refine qN (w3 r1 k1a k1b) (FN.apX (bL toks ip [58]) e2 p1) ?_;rintro _ H2 ⟨rfl,F2,p2,g2⟩;obtain⟨f2,⟨st2,r2⟩,⟨k2a,n2a⟩,⟨k2b,n2b⟩⟩:=iN f1 p2 g2 k1a n1a k1b n1b;refine qT 1 (a2 aJ (w3 r2 k2a k2b)) ?_;obtain⟨s3,e3,hm⟩:=oB hm;refine qN (w3 r2 k2a k2b) (FG.apX (IH .expr) e3 p2 ⟨k2a,n2a⟩) ?_;rintro _ H3 ⟨rfl,F3,p3,g3⟩;obtain⟨f3,⟨st3,r3⟩,⟨k3a,n3a⟩,⟨k3b,n3b⟩⟩:=iN f2 p3 g3 k2a n2a k2b n2b;refine dL ?_;injection hm with hm;subst hm;exact bJ p3 f3
def aIz(toks:List Tk)(n:Nat)(R:dP)(s0:PS):Option PS:=((cJ toks) s0).bind λs1=>((bP toks [58]) s1).bind λs2=>((R .typeExpr) s2).bind λs3=>some s3
theorem aIb{toks:List Tk}{ip n:Nat}{R:dP}(IH:lD toks ip R)(b0:Nat):FC Tryz.prog toks ip 227 [.optr b0 0] (aIz toks n R) cM (eW [(0,gO),(b0, .row [.optr ip 0])]):=by
 refine eN λs0 s' F0 H0 hm p0 i0=> ?_;obtain⟨⟨k0a,n0a⟩,⟨k0b,n0b⟩,_⟩:=i0;obtain⟨st0,r0⟩:=p0.row;have hl:=aV p0.len;have f0:=Fr.refl F0 H0;unfold aIz at hm;refine aF (N:=7) Tryz.func227 rfl rfl z6 λhb'=> ?_;refine qT 1 (a2 aJ (w3 r0 k0a k0b)) ?_;obtain⟨s1,e1,hm⟩:=oB hm;refine qN (w3 r0 k0a k0b) (FN.apX (cC toks ip) e1 p0) ?_;rintro _ H1 ⟨rfl,F1,p1,g1⟩;obtain⟨f1,⟨st1,r1⟩,⟨k1a,n1a⟩,⟨k1b,n1b⟩⟩:=iN f0 p1 g1 k0a n0a k0b n0b;refine qT 1 (a2 aJ (w3 r1 k1a k1b)) ?_;obtain⟨s2,e2,hm⟩:=oB hm;refine qN (w3 r1 k1a k1b) (FN.apX (bL toks ip [58]) e2 p1) ?_;rintro _ H2 ⟨rfl,F2,p2,g2⟩;obtain⟨f2,⟨st2,r2⟩,⟨k2a,n2a⟩,⟨k2b,n2b⟩⟩:=iN f1 p2 g2 k1a n1a k1b n1b;refine qT 1 (a2 aJ (w3 r2 k2a k2b)) ?_;obtain⟨s3,e3,hm⟩:=oB hm;refine qN (w3 r2 k2a k2b) (FG.apX (IH .typeExpr) e3 p2 ⟨k2a,n2a⟩) ?_;rintro _ H3 ⟨rfl,F3,p3,g3⟩;obtain⟨f3,⟨st3,r3⟩,⟨k3a,n3a⟩,⟨k3b,n3b⟩⟩:=iN f2 p3 g3 k2a n2a k2b n2b;refine dL ?_;injection hm with hm;subst hm;exact bJ p3 f3
def aNb(toks:List Tk)(n:Nat)(R:dP)(s0:PS):Option PS:=((cJ toks) s0).bind λs1=>((jI toks ([58]) (R .typeExpr)) s1).bind λs2=>some s2
theorem aIo{toks:List Tk}{ip n:Nat}{R:dP}(IH:lD toks ip R)(b0:Nat):FC Tryz.prog toks ip 240 [.optr b0 0] (aNb toks n R) cM (eW [(0,gO),(b0, .row [.optr ip 0])]):=by
 refine eN λs0 s' F0 H0 hm p0 i0=> ?_;obtain⟨⟨k0a,n0a⟩,⟨k0b,n0b⟩,_⟩:=i0;obtain⟨st0,r0⟩:=p0.row;have hl:=aV p0.len;have f0:=Fr.refl F0 H0;unfold aNb at hm;refine aF (N:=7) Tryz.func240 rfl rfl z6 λhb'=> ?_;refine qT 1 (a2 aJ (w3 r0 k0a k0b)) ?_;obtain⟨s1,e1,hm⟩:=oB hm;refine qN (w3 r0 k0a k0b) (FN.apX (cC toks ip) e1 p0) ?_;rintro _ H1 ⟨rfl,F1,p1,g1⟩;obtain⟨f1,⟨st1,r1⟩,⟨k1a,n1a⟩,⟨k1b,n1b⟩⟩:=iN f0 p1 g1 k0a n0a k0b n0b;have q1:=aA r1;have b1a:=aA k1a;have b1b:=aA k1b;refine qT 3 (a2 aJ (w3 r1 k1a k1b)) ?_;obtain⟨s2,e2,hm⟩:=oB hm;refine qN (w3 r1 k1a k1b) (FC.apX (mR toks ip ([58]) 163 [.optr ip 0] [] uO (dS [(0,gO)]) (FG.fc (IH .typeExpr))) e2 p1 ⟨⟨k1a,n1a⟩,trivial⟩) ?_;rintro _ H2 ⟨rfl,F2,p2,g2⟩;obtain⟨f2,⟨st2,r2⟩,⟨k2a,n2a⟩,⟨k2b,n2b⟩⟩:=iN f1 p2 g2 k1a n1a k1b n1b;refine dL ?_;injection hm with hm;subst hm;exact bJ p2 f2
def aIq(toks:List Tk)(n:Nat)(R:dP)(s0:PS):Option PS:=((cJ toks) s0).bind λs1=>((cH toks [[109,117,116]]) s1).bind λs2=>((R .typeExpr) s2).bind λs3=>some s3
theorem aJb{toks:List Tk}{ip n:Nat}{R:dP}(IH:lD toks ip R)(b0:Nat):FC Tryz.prog toks ip 233 [.optr b0 0] (aIq toks n R) cM (eW [(0,gO),(b0, .row [.optr ip 0])]):=by
 refine eN λs0 s' F0 H0 hm p0 i0=> ?_;obtain⟨⟨k0a,n0a⟩,⟨k0b,n0b⟩,_⟩:=i0;obtain⟨st0,r0⟩:=p0.row;have hl:=aV p0.len;have f0:=Fr.refl F0 H0;unfold aIq at hm;refine aF (N:=8) Tryz.func233 rfl rfl z6 λhb'=> ?_;refine qT 1 (a2 aJ (w3 r0 k0a k0b)) ?_;obtain⟨s1,e1,hm⟩:=oB hm;refine qN (w3 r0 k0a k0b) (FN.apX (cC toks ip) e1 p0) ?_;rintro _ H1 ⟨rfl,F1,p1,g1⟩;obtain⟨f1,⟨st1,r1⟩,⟨k1a,n1a⟩,⟨k1b,n1b⟩⟩:=iN f0 p1 g1 k0a n0a k0b n0b;refine qT 2 (a4 y9 aJ fQ (w3 r1 k1a k1b)) ?_;obtain⟨s2,e2,hm⟩:=oB hm;refine qN (w3 r1 k1a k1b) (FN.apX (eG toks ip [[109,117,116]] z7) e2 p1) ?_;rintro _ H2 ⟨rfl,F2,p2,g2⟩;obtain⟨f2,⟨st2,r2⟩,⟨k2a,n2a⟩,⟨k2b,n2b⟩⟩:=iN f1 p2 g2 k1a n1a k1b n1b;refine qT 1 (a2 aJ (w3 r2 k2a k2b)) ?_;obtain⟨s3,e3,hm⟩:=oB hm;refine qN (w3 r2 k2a k2b) (FG.apX (IH .typeExpr) e3 p2 ⟨k2a,n2a⟩) ?_;rintro _ H3 ⟨rfl,F3,p3,g3⟩;obtain⟨f3,⟨st3,r3⟩,⟨k3a,n3a⟩,⟨k3b,n3b⟩⟩:=iN f2 p3 g3 k2a n2a k2b n2b;refine dL ?_;injection hm with hm;subst hm;exact bJ p3 f3
def aKk(toks:List Tk)(n:Nat)(R:dP)(s0:PS):Option PS:=((cJ toks) s0).bind λs1=>((bP toks [40]) s1).bind λs2=>((pM toks n ([41]) (R .typeExpr)) s2).bind λs3=>((jI toks ([45,62]) (R .typeExpr)) s3).bind λs4=>some s4
theorem aLj{toks:List Tk}{ip n:Nat}{R:dP}(IH:lD toks ip R)(b0:Nat):FC Tryz.prog toks ip 234 [.optr b0 0] (aKk toks n R) cM (eW [(0,gO),(b0, .row [.optr ip 0])]):=by
 refine eN λs0 s' F0 H0 hm p0 i0=> ?_;obtain⟨⟨k0a,n0a⟩,⟨k0b,n0b⟩,_⟩:=i0;obtain⟨st0,r0⟩:=p0.row;have hl:=aV p0.len;have f0:=Fr.refl F0 H0;unfold aKk at hm;refine aF (N:=13) Tryz.func234 rfl rfl z6 λhb'=> ?_;refine qT 1 (a2 aJ (w3 r0 k0a k0b)) ?_;obtain⟨s1,e1,hm⟩:=oB hm;refine qN (w3 r0 k0a k0b) (FN.apX (cC toks ip) e1 p0) ?_;rintro _ H1 ⟨rfl,F1,p1,g1⟩;obtain⟨f1,⟨st1,r1⟩,⟨k1a,n1a⟩,⟨k1b,n1b⟩⟩:=iN f0 p1 g1 k0a n0a k0b n0b;refine qT 1 (a2 aJ (w3 r1 k1a k1b)) ?_;obtain⟨s2,e2,hm⟩:=oB hm;refine qN (w3 r1 k1a k1b) (FN.apX (bL toks ip [40]) e2 p1) ?_;rintro _ H2 ⟨rfl,F2,p2,g2⟩;obtain⟨f2,⟨st2,r2⟩,⟨k2a,n2a⟩,⟨k2b,n2b⟩⟩:=iN f1 p2 g2 k1a n1a k1b n1b;have q2:=aA r2;have b2a:=aA k2a;have b2b:=aA k2b;refine qT 3 (a2 aJ (w3 r2 k2a k2b)) ?_;obtain⟨s3,e3,hm⟩:=oB hm;refine qN (w3 r2 k2a k2b) (FC.apX (rJ toks ip n ([41]) 163 [.optr ip 0] [] uO (dS [(0,gO)]) (λ_ _ _=>nF) (FG.fc (IH .typeExpr))) e3 p2 ⟨⟨k2a,n2a⟩,trivial⟩) ?_;rintro _ H3 ⟨rfl,F3,p3,g3⟩;obtain⟨f3,⟨st3,r3⟩,⟨k3a,n3a⟩,⟨k3b,n3b⟩⟩:=iN f2 p3 g3 k2a n2a k2b n2b;have q3:=aA r3;have b3a:=aA k3a;have b3b:=aA k3b;refine qT 3 (a2 aJ (w3 r3 k3a k3b)) ?_;obtain⟨s4,e4,hm⟩:=oB hm;refine qN (w3 r3 k3a k3b) (FC.apX (mR toks ip ([45,62]) 163 [.optr ip 0] [] uO (dS [(0,gO)]) (FG.fc (IH .typeExpr))) e4 p3 ⟨⟨k3a,n3a⟩,trivial⟩) ?_;rintro _ H4 ⟨rfl,F4,p4,g4⟩;obtain⟨f4,⟨st4,r4⟩,⟨k4a,n4a⟩,⟨k4b,n4b⟩⟩:=iN f3 p4 g4 k3a n3a k3b n3b;refine dL ?_;injection hm with hm;subst hm;exact bJ p4 f4
def aMm(toks:List Tk)(n:Nat)(R:dP)(s0:PS):Option PS:=if eI (aG toks s0.pos) [[45],[33],[42]]=true then(((cF 40 (aIl toks n R)) s0).bind λs1=>some s1)else(if eI (aG toks s0.pos) [[38]]=true then(((cF 41 (aNk toks n R)) s0).bind λs1=>some s1)else(((R .primary) s0).bind λs1=>((R .postfx) s1).bind λs2=>some s2))
theorem aJm{toks:List Tk}{ip n:Nat}{R:dP}(IH:lD toks ip R):FG toks ip 274 [.optr ip 0] (aMm toks n R) (CD .unary):=by
 intro s0 s' F0 H0 hm p0 i0;obtain⟨⟨hg,n0a⟩,_⟩:=i0;obtain⟨st0,r0⟩:=p0.row;have q0:=aA r0;have hl:=aV p0.len;have f0:=Fr.refl F0 H0;have k0a:=aA hg [.row [.optr ip 0]];have b0a:=aA k0a;have k0b:(H0++ [.row [.optr ip 0]])[H0.length]? =some (.row [.optr ip 0]):=z6
 have n0b:=p0.new0;have b0b:=aA k0b;unfold aMm at hm;refine aF (N:=20) Tryz.func274 rfl rfl z6 λhb'=> ?_;have x1:=a3 r0 q0 hg;refine qE (a2 aJ x1) ?_;refine qB ?_;refine qT 2 (a4 y9 aJ fQ x1) ?_;refine qP x1 dJ (fM (mB r0) hl p0.pos [[45],[33],[42]] z7) ?_;refine qX x1 ?_;refine qI x1 (λbt6=> ?_) (λbt6=> ?_)
 ·
  rw[fZ bt6]at hm;refine qT 2 (a2 aJ x1) ?_;obtain⟨s1,e1,hm⟩:=oB hm;refine qN (a2 hg (w1 r0)) (FC.apX (cP toks ip 40 299 [] [.optr (H0.length) 0] aK4 (dS [(0,gO),(H0.length, .row [.optr ip 0])]) (aKz (n:=n) IH (H0.length))) e1 p0 ⟨⟨k0a,n0a⟩,⟨k0b,n0b⟩,trivial⟩) ?_;rintro _ H1 ⟨rfl,F1,p1,g1⟩;have f1:=f0.stX g1;obtain⟨st1,r1⟩:=p1.row;have q1:=aA r1;obtain⟨k1a,n1a⟩:=g1.gtX k0a n0a;have b1a:=aA k1a;obtain⟨k1b,n1b⟩:=g1.gtX k0b n0b;have b1b:=aA k1b;refine dL ?_;injection hm with hm;subst hm;exact bJ p1 f1
 ·
  rw[gI bt6]at hm;refine qT 2 (a4 y9 aJ fQ x1) ?_;refine qP x1 dJ (fM (mB r0) hl p0.pos [[38]] z7) ?_;refine qX x1 ?_;refine qI x1 (λbt13=> ?_) (λbt13=> ?_)
  ·
   rw[fZ bt13]at hm;refine qT 2 (a2 aJ x1) ?_;obtain⟨s1,e1,hm⟩:=oB hm;refine qN (a2 hg (w1 r0)) (FC.apX (cP toks ip 41 300 [] [.optr (H0.length) 0] aMz (dS [(0,gO),(H0.length, .row [.optr ip 0])]) (aLh (n:=n) IH (H0.length))) e1 p0 ⟨⟨k0a,n0a⟩,⟨k0b,n0b⟩,trivial⟩) ?_;rintro _ H1 ⟨rfl,F1,p1,g1⟩;have f1:=f0.stX g1;obtain⟨st1,r1⟩:=p1.row;have q1:=aA r1;obtain⟨k1a,n1a⟩:=g1.gtX k0a n0a;have b1a:=aA k1a;obtain⟨k1b,n1b⟩:=g1.gtX k0b n0b;have b1b:=aA k1b;refine dL ?_;injection hm with hm;subst hm;exact bJ p1 f1
  ·
   rw[gI bt13]at hm;refine qT 1 (a2 aJ x1) ?_;obtain⟨s1,e1,hm⟩:=oB hm;refine ZA (a3 r0 q0 hg) XN ((by first|exact FG.ap0 (IH .primary) e1 p0 ⟨k0a,n0a⟩|exact FG.ap' (IH .primary) e1 p0 ⟨k0a,n0a⟩|exact FG.ap (IH .primary) e1 p0 ⟨k0a,n0a⟩)) ?_;rintro _ H1 ⟨rfl,F1,p1,g1⟩;have f1:=f0.stX g1;obtain⟨st1,r1⟩:=p1.row;have q1:=aA r1;obtain⟨k1a,n1a⟩:=g1.gtX k0a n0a;have b1a:=aA k1a;obtain⟨k1b,n1b⟩:=g1.gtX k0b n0b;have b1b:=aA k1b;refine oN ?_;refine qT 1 (a5 aJ hg r1 q1 (a4 k1a b1a k1b b1b)) ?_;obtain⟨s2,e2,hm⟩:=oB hm;refine qN (a5 hg r1 q1 k1a (a3 b1a k1b b1b)) (FG.apX (IH .postfx) e2 p1 ⟨k1a,n1a⟩) ?_;rintro _ H2 ⟨rfl,F2,p2,g2⟩;have f2:=f1.stX g2;obtain⟨st2,r2⟩:=p2.row;have q2:=aA r2;obtain⟨k2a,n2a⟩:=g2.gtX k1a n1a;have b2a:=aA k2a;obtain⟨k2b,n2b⟩:=g2.gtX k1b n1b;have b2b:=aA k2b;refine dL ?_;injection hm with hm;subst hm;exact bJ p2 f2
def aNr(toks:List Tk)(n:Nat)(R:dP)(s0:PS):Option PS:=if eI (aG toks s0.pos) [[105,102]]=true then(((R .ifExpr) s0).bind λs1=>some s1)else(((R .block) s0).bind λs1=>some s1)
theorem aMs{toks:List Tk}{ip n:Nat}{R:dP}(IH:lD toks ip R)(b0:Nat):FC Tryz.prog toks ip 343 [.optr b0 0] (aNr toks n R) cM (eW [(0,gO),(b0, .row [.optr ip 0])]):=by
 refine eN λs0 s' F0 H0 hm p0 i0=> ?_;obtain⟨⟨k0a,n0a⟩,⟨k0b,n0b⟩,_⟩:=i0;obtain⟨st0,r0⟩:=p0.row;have hl:=aV p0.len;have f0:=Fr.refl F0 H0;unfold aNr at hm;refine aF (N:=8) Tryz.func343 rfl rfl z6 λhb'=> ?_;refine qT 2 (a4 y9 aJ fQ (w3 r0 k0a k0b)) ?_;have x1:=w3 r0 k0a k0b;refine qP x1 dJ (fM (mB r0) hl p0.pos [[105,102]] z7) ?_;refine oN ?_;refine qI x1 (λbt3=> ?_) (λbt3=> ?_)
 ·
  rw[fZ bt3]at hm;refine qT 1 (a2 aJ (w3 r0 k0a k0b)) ?_;obtain⟨s1,e1,hm⟩:=oB hm;refine qN x1 (FG.apX (IH .ifExpr) e1 p0 ⟨k0a,n0a⟩) ?_;rintro _ H1 ⟨rfl,F1,p1,g1⟩;obtain⟨f1,⟨st1,r1⟩,⟨k1a,n1a⟩,⟨k1b,n1b⟩⟩:=iN f0 p1 g1 k0a n0a k0b n0b;refine dL ?_;injection hm with hm;subst hm;exact bJ p1 f1
 ·
  rw[gI bt3]at hm;refine qT 1 (a2 aJ (w3 r0 k0a k0b)) ?_;obtain⟨s1,e1,hm⟩:=oB hm;refine qN x1 (FG.apX (IH .block) e1 p0 ⟨k0a,n0a⟩) ?_;rintro _ H1 ⟨rfl,F1,p1,g1⟩;obtain⟨f1,⟨st1,r1⟩,⟨k1a,n1a⟩,⟨k1b,n1b⟩⟩:=iN f0 p1 g1 k0a n0a k0b n0b;refine dL ?_;injection hm with hm;subst hm;exact bJ p1 f1
def aH0(toks:List Tk)(n:Nat)(R:dP)(s0:PS):Option PS:=((cJ toks) s0).bind λs1=>((R .expr) s1).bind λs2=>((R .block) s2).bind λs3=>((jI toks ([101,108,115,101]) (aNr toks n R)) s3).bind λs4=>some s4
theorem aMg{toks:List Tk}{ip n:Nat}{R:dP}(IH:lD toks ip R)(b0:Nat):FC Tryz.prog toks ip 342 [.optr b0 0] (aH0 toks n R) cM (eW [(0,gO),(b0, .row [.optr ip 0])]):=by
 refine eN λs0 s' F0 H0 hm p0 i0=> ?_;obtain⟨⟨k0a,n0a⟩,⟨k0b,n0b⟩,_⟩:=i0;obtain⟨st0,r0⟩:=p0.row;have hl:=aV p0.len;have f0:=Fr.refl F0 H0;unfold aH0 at hm;refine aF (N:=10) Tryz.func342 rfl rfl z6 λhb'=> ?_;refine qT 1 (a2 aJ (w3 r0 k0a k0b)) ?_;obtain⟨s1,e1,hm⟩:=oB hm;refine qN (w3 r0 k0a k0b) (FN.apX (cC toks ip) e1 p0) ?_;rintro _ H1 ⟨rfl,F1,p1,g1⟩;obtain⟨f1,⟨st1,r1⟩,⟨k1a,n1a⟩,⟨k1b,n1b⟩⟩:=iN f0 p1 g1 k0a n0a k0b n0b;refine qT 1 (a2 aJ (w3 r1 k1a k1b)) ?_;obtain⟨s2,e2,hm⟩:=oB hm;refine qN (w3 r1 k1a k1b) (FG.apX (IH .expr) e2 p1 ⟨k1a,n1a⟩) ?_;rintro _ H2 ⟨rfl,F2,p2,g2⟩;obtain⟨f2,⟨st2,r2⟩,⟨k2a,n2a⟩,⟨k2b,n2b⟩⟩:=iN f1 p2 g2 k1a n1a k1b n1b;refine qT 1 (a2 aJ (w3 r2 k2a k2b)) ?_;obtain⟨s3,e3,hm⟩:=oB hm;refine qN (w3 r2 k2a k2b) (FG.apX (IH .block) e3 p2 ⟨k2a,n2a⟩) ?_;rintro _ H3 ⟨rfl,F3,p3,g3⟩;obtain⟨f3,⟨st3,r3⟩,⟨k3a,n3a⟩,⟨k3b,n3b⟩⟩:=iN f2 p3 g3 k2a n2a k2b n2b;have q3:=aA r3;have b3a:=aA k3a;have b3b:=aA k3b;refine qT 2 (a2 aJ (w3 r3 k3a k3b)) ?_;obtain⟨s4,e4,hm⟩:=oB hm;refine qN (w3 r3 k3a k3b) (FC.apX (mR toks ip ([101,108,115,101]) 343 [] [.optr (b0) 0] aM4 (dS [(0,gO),(b0, .row [.optr ip 0])]) (aMs (n:=n) IH (b0))) e4 p3 ⟨⟨k3a,n3a⟩,⟨k3b,n3b⟩,trivial⟩) ?_;rintro _ H4 ⟨rfl,F4,p4,g4⟩;obtain⟨f4,⟨st4,r4⟩,⟨k4a,n4a⟩,⟨k4b,n4b⟩⟩:=iN f3 p4 g4 k3a n3a k3b n3b;refine dL ?_;injection hm with hm;subst hm;exact bJ p4 f4
def aHv(toks:List Tk)(n:Nat)(R:dP)(s0:PS):Option PS:=((cF 37 (aH0 toks n R)) s0).bind λs1=>some s1
theorem aM1{toks:List Tk}{ip n:Nat}{R:dP}(IH:lD toks ip R):FG toks ip 320 [.optr ip 0] (aHv toks n R) (CD .ifExpr):=by
 intro s0 s' F0 H0 hm p0 i0;obtain⟨⟨hg,n0a⟩,_⟩:=i0;obtain⟨st0,r0⟩:=p0.row;have q0:=aA r0;have hl:=aV p0.len;have f0:=Fr.refl F0 H0;have k0a:=aA hg [.row [.optr ip 0]];have b0a:=aA k0a;have k0b:(H0++ [.row [.optr ip 0]])[H0.length]? =some (.row [.optr ip 0]):=z6
 have n0b:=p0.new0;have b0b:=aA k0b;unfold aHv at hm;refine aF (N:=5) Tryz.func320 rfl rfl z6 λhb'=> ?_;refine qE (a4 aJ r0 q0 hg) ?_;refine qT 2 (a4 aJ r0 q0 hg) ?_;obtain⟨s1,e1,hm⟩:=oB hm;refine qN (a2 hg (w1 r0)) (FC.apX (cP toks ip 37 342 [] [.optr (H0.length) 0] aJr (dS [(0,gO),(H0.length, .row [.optr ip 0])]) (aMg (n:=n) IH (H0.length))) e1 p0 ⟨⟨k0a,n0a⟩,⟨k0b,n0b⟩,trivial⟩) ?_;rintro _ H1 ⟨rfl,F1,p1,g1⟩;have f1:=f0.stX g1;obtain⟨st1,r1⟩:=p1.row;have q1:=aA r1;obtain⟨k1a,n1a⟩:=g1.gtX k0a n0a;have b1a:=aA k1a;obtain⟨k1b,n1b⟩:=g1.gtX k0b n0b;have b1b:=aA k1b;refine dL ?_;injection hm with hm;subst hm;exact bJ p1 f1
def aJj(toks:List Tk)(n:Nat)(R:dP)(s0:PS):Option PS:=if IU (aG toks s0.pos)=true then(((cF 36 (aHd toks n R)) s0).bind λs1=>some s1)else(some s0)
theorem aKc{toks:List Tk}{ip n:Nat}{R:dP}(IH:lD toks ip R)(b0:Nat):FC Tryz.prog toks ip 344 [.optr b0 0] (aJj toks n R) cM (eW [(0,gO),(b0, .row [.optr ip 0])]):=by
 refine eN λs0 s' F0 H0 hm p0 i0=> ?_;obtain⟨⟨k0a,n0a⟩,⟨k0b,n0b⟩,_⟩:=i0;have b0a:=aA k0a;have b0b:=aA k0b;obtain⟨st0,r0⟩:=p0.row;have q0:=aA r0;have hl:=aV p0.len;have f0:=Fr.refl F0 H0;unfold aJj at hm;refine aF (N:=6) Tryz.func344 rfl rfl z6 λhb'=> ?_;refine qT 1 (a2 aJ (w3 r0 k0a k0b)) ?_;refine qP (w3 r0 k0a k0b) aKq (NK (mB r0) hl p0.pos) ?_;refine oN ?_;refine qI (w3 r0 k0a k0b) (λbt2=> ?_) (λbt2=> ?_)
 ·
  rw[fZ bt2]at hm;refine qT 2 (a2 aJ (w3 r0 k0a k0b)) ?_;obtain⟨s1,e1,hm⟩:=oB hm;refine qN (w3 r0 k0a k0b) (FC.apX (cP toks ip 36 346 [] [.optr (b0) 0] aLb (dS [(0,gO),(b0, .row [.optr ip 0])]) (aH3 (n:=n) IH (b0))) e1 p0 ⟨⟨k0a,n0a⟩,⟨k0b,n0b⟩,trivial⟩) ?_;rintro _ H1 ⟨rfl,F1,p1,g1⟩;obtain⟨f1,⟨st1,r1⟩,⟨k1a,n1a⟩,⟨k1b,n1b⟩⟩:=iN f0 p1 g1 k0a n0a k0b n0b;refine dL ?_;injection hm with hm;subst hm;exact bJ p1 f1
 ·
  rw[gI bt2]at hm;refine qK ?_;refine dL ?_;injection hm with hm;subst hm;exact bJ p0 f0
def aJw(toks:List Tk)(n:Nat)(R:dP)(s0:PS):Option PS:=((cJ toks) s0).bind λs1=>((R .expr) s1).bind λs2=>((bP toks [123]) s2).bind λs3=>((pM toks n ([125]) (aJj toks n R)) s3).bind λs4=>some s4
theorem aM9{toks:List Tk}{ip n:Nat}{R:dP}(IH:lD toks ip R):FG toks ip 321 [.optr ip 0] (aJw toks n R) (CD .matchE):=by
 intro s0 s' F0 H0 hm p0 i0;obtain⟨⟨hg,n0a⟩,_⟩:=i0;obtain⟨st0,r0⟩:=p0.row;have q0:=aA r0;have hl:=aV p0.len;have f0:=Fr.refl F0 H0;have k0a:=aA hg [.row [.optr ip 0]];have b0a:=aA k0a;have k0b:(H0++ [.row [.optr ip 0]])[H0.length]? =some (.row [.optr ip 0]):=z6
 have n0b:=p0.new0;have b0b:=aA k0b;unfold aJw at hm;refine aF (N:=11) Tryz.func321 rfl rfl z6 λhb'=> ?_;refine qE (a4 aJ r0 q0 hg) ?_;refine qT 1 (a4 aJ r0 q0 hg) ?_;obtain⟨s1,e1,hm⟩:=oB hm;refine qN (a3 r0 q0 hg) (FN.apX (cC toks ip) e1 p0) ?_;rintro _ H1 ⟨rfl,F1,p1,g1⟩;have f1:=f0.stX g1;obtain⟨st1,r1⟩:=p1.row;have q1:=aA r1;obtain⟨k1a,n1a⟩:=g1.gtX k0a n0a;have b1a:=aA k1a;obtain⟨k1b,n1b⟩:=g1.gtX k0b n0b;have b1b:=aA k1b;refine qT 1 (a5 aJ hg r1 q1 (a4 k1a b1a k1b b1b)) ?_;obtain⟨s2,e2,hm⟩:=oB hm;refine qN (a5 hg r1 q1 k1a (a3 b1a k1b b1b)) (FG.apX (IH .expr) e2 p1 ⟨k1a,n1a⟩) ?_;rintro _ H2 ⟨rfl,F2,p2,g2⟩;have f2:=f1.stX g2;obtain⟨st2,r2⟩:=p2.row;have q2:=aA r2;obtain⟨k2a,n2a⟩:=g2.gtX k1a n1a;have b2a:=aA k2a;obtain⟨k2b,n2b⟩:=g2.gtX k1b n1b;have b2b:=aA k2b;refine qT 1 (a5 aJ hg r2 q2 (a4 k2a b2a k2b b2b)) ?_;obtain⟨s3,e3,hm⟩:=oB hm;refine qN (a5 hg r2 q2 k2a (a3 b2a k2b b2b)) (FN.apX (bL toks ip [123]) e3 p2) ?_;rintro _ H3 ⟨rfl,F3,p3,g3⟩;have f3:=f2.stX g3;obtain⟨st3,r3⟩:=p3.row;have q3:=aA r3;obtain⟨k3a,n3a⟩:=g3.gtX k2a n2a;have b3a:=aA k3a;obtain⟨k3b,n3b⟩:=g3.gtX k2b n2b;have b3b:=aA k3b;refine qT 2 (a5 aJ hg r3 q3 (a4 k3a b3a k3b b3b)) ?_;obtain⟨s4,e4,hm⟩:=oB hm;refine qN (a2 hg (w3 r3 k3a k3b)) (FC.apX (rJ toks ip n ([125]) 344 [] [.optr (H0.length) 0] aM5 (dS [(0,gO),(H0.length, .row [.optr ip 0])]) (λ_ _ _=>nF) (aKc (n:=n) IH (H0.length))) e4 p3 ⟨⟨k3a,n3a⟩,⟨k3b,n3b⟩,trivial⟩) ?_;rintro _ H4 ⟨rfl,F4,p4,g4⟩;have f4:=f3.stX g4;obtain⟨st4,r4⟩:=p4.row;have q4:=aA r4;obtain⟨k4a,n4a⟩:=g4.gtX k3a n3a;have b4a:=aA k4a;obtain⟨k4b,n4b⟩:=g4.gtX k3b n3b;have b4b:=aA k4b;refine dL ?_;injection hm with hm;subst hm;exact bJ p4 f4
def aKv(toks:List Tk)(n:Nat)(R:dP)(s0:PS):Option PS:=if decide ((aG toks s0.pos).kind=103)=true then(((cF 34 (aJd toks n R)) s0).bind λs1=>some s1)else(some s0)
theorem aLx{toks:List Tk}{ip n:Nat}{R:dP}(IH:lD toks ip R)(b0:Nat):FC Tryz.prog toks ip 347 [.optr b0 0] (aKv toks n R) cM (eW [(0,gO),(b0, .row [.optr ip 0])]):=by
 refine eN λs0 s' F0 H0 hm p0 i0=> ?_;obtain⟨⟨k0a,n0a⟩,⟨k0b,n0b⟩,_⟩:=i0;have b0a:=aA k0a;have b0b:=aA k0b;obtain⟨st0,r0⟩:=p0.row;have q0:=aA r0;have hl:=aV p0.len;have f0:=Fr.refl F0 H0;unfold aKv at hm;refine aF (N:=6) Tryz.func347 rfl rfl z6 λhb'=> ?_;refine qT 1 (a2 aJ (w3 r0 k0a k0b)) ?_;refine qP (w3 r0 k0a k0b) mK (fA (mB r0) hl p0.pos) ?_;refine oN ?_;refine qI (w3 r0 k0a k0b) (λbt2=> ?_) (λbt2=> ?_)
 ·
  rw[fZ bt2]at hm;refine qT 2 (a2 aJ (w3 r0 k0a k0b)) ?_;obtain⟨s1,e1,hm⟩:=oB hm;refine qN (w3 r0 k0a k0b) (FC.apX (cP toks ip 34 348 [] [.optr (b0) 0] aJ0 (dS [(0,gO),(b0, .row [.optr ip 0])]) (aI0 (n:=n) IH (b0))) e1 p0 ⟨⟨k0a,n0a⟩,⟨k0b,n0b⟩,trivial⟩) ?_;rintro _ H1 ⟨rfl,F1,p1,g1⟩;obtain⟨f1,⟨st1,r1⟩,⟨k1a,n1a⟩,⟨k1b,n1b⟩⟩:=iN f0 p1 g1 k0a n0a k0b n0b;refine dL ?_;injection hm with hm;subst hm;exact bJ p1 f1
 ·
  rw[gI bt2]at hm;refine qK ?_;refine dL ?_;injection hm with hm;subst hm;exact bJ p0 f0
def aIn(toks:List Tk)(n:Nat)(R:dP)(s0:PS):Option PS:=((cJ toks) s0).bind λs1=>((R (.path false)) s1).bind λs2=>((bP toks [123]) s2).bind λs3=>((pM toks n ([125]) (aKv toks n R)) s3).bind λs4=>some s4
theorem aHu{toks:List Tk}{ip n:Nat}{R:dP}(IH:lD toks ip R):FG toks ip 322 [.optr ip 0] (aIn toks n R) (CD .structLit):=by
 intro s0 s' F0 H0 hm p0 i0;obtain⟨⟨hg,n0a⟩,_⟩:=i0;obtain⟨st0,r0⟩:=p0.row;have q0:=aA r0;have hl:=aV p0.len;have f0:=Fr.refl F0 H0;have k0a:=aA hg [.row [.optr ip 0]];have b0a:=aA k0a;have k0b:(H0++ [.row [.optr ip 0]])[H0.length]? =some (.row [.optr ip 0]):=z6
 have n0b:=p0.new0;have b0b:=aA k0b;unfold aIn at hm;refine aF (N:=11) Tryz.func322 rfl rfl z6 λhb'=> ?_;refine qE (a4 aJ r0 q0 hg) ?_;refine qT 1 (a4 aJ r0 q0 hg) ?_;obtain⟨s1,e1,hm⟩:=oB hm;refine qN (a3 r0 q0 hg) (FN.apX (cC toks ip) e1 p0) ?_;rintro _ H1 ⟨rfl,F1,p1,g1⟩;have f1:=f0.stX g1;obtain⟨st1,r1⟩:=p1.row;have q1:=aA r1;obtain⟨k1a,n1a⟩:=g1.gtX k0a n0a;have b1a:=aA k1a;obtain⟨k1b,n1b⟩:=g1.gtX k0b n0b;have b1b:=aA k1b;refine qT 1 (a5 aJ hg r1 q1 (a4 k1a b1a k1b b1b)) ?_;obtain⟨s2,e2,hm⟩:=oB hm;refine qN (a5 hg r1 q1 k1a (a3 b1a k1b b1b)) (FG.apX (IH (.path false)) e2 p1 ⟨k1a,n1a⟩) ?_;rintro _ H2 ⟨rfl,F2,p2,g2⟩;have f2:=f1.stX g2;obtain⟨st2,r2⟩:=p2.row;have q2:=aA r2;obtain⟨k2a,n2a⟩:=g2.gtX k1a n1a;have b2a:=aA k2a;obtain⟨k2b,n2b⟩:=g2.gtX k1b n1b;have b2b:=aA k2b;refine qT 1 (a5 aJ hg r2 q2 (a4 k2a b2a k2b b2b)) ?_;obtain⟨s3,e3,hm⟩:=oB hm;refine qN (a5 hg r2 q2 k2a (a3 b2a k2b b2b)) (FN.apX (bL toks ip [123]) e3 p2) ?_;rintro _ H3 ⟨rfl,F3,p3,g3⟩;have f3:=f2.stX g3;obtain⟨st3,r3⟩:=p3.row;have q3:=aA r3;obtain⟨k3a,n3a⟩:=g3.gtX k2a n2a;have b3a:=aA k3a;obtain⟨k3b,n3b⟩:=g3.gtX k2b n2b;have b3b:=aA k3b;refine qT 2 (a5 aJ hg r3 q3 (a4 k3a b3a k3b b3b)) ?_;obtain⟨s4,e4,hm⟩:=oB hm;refine qN (a2 hg (w3 r3 k3a k3b)) (FC.apX (rJ toks ip n ([125]) 347 [] [.optr (H0.length) 0] aH6 (dS [(0,gO),(H0.length, .row [.optr ip 0])]) (λ_ _ _=>nF) (aLx (n:=n) IH (H0.length))) e4 p3 ⟨⟨k3a,n3a⟩,⟨k3b,n3b⟩,trivial⟩) ?_;rintro _ H4 ⟨rfl,F4,p4,g4⟩;have f4:=f3.stX g4;obtain⟨st4,r4⟩:=p4.row;have q4:=aA r4;obtain⟨k4a,n4a⟩:=g4.gtX k3a n3a;have b4a:=aA k4a;obtain⟨k4b,n4b⟩:=g4.gtX k3b n3b;have b4b:=aA k4b;refine dL ?_;injection hm with hm;subst hm;exact bJ p4 f4
def aIe(toks:List Tk)(n:Nat)(R:dP)(s0:PS):Option PS:=some s0
theorem aMc{toks:List Tk}{ip n:Nat}{R:dP}(IH:lD toks ip R):FC Tryz.prog toks ip 349 [] (aIe toks n R) cM (eW [(0,gO)]):=by
 refine eN λs0 s' F0 H0 hm p0 i0=> ?_;obtain⟨⟨k0a,n0a⟩,_⟩:=i0;obtain⟨st0,r0⟩:=p0.row;have hl:=aV p0.len;have f0:=Fr.refl F0 H0;unfold aIe at hm;refine aF (N:=0) Tryz.func349 rfl rfl z6 λhb'=> ?_;refine qK ?_;refine dL ?_;injection hm with hm;subst hm;exact bJ p0 f0
def aL1(toks:List Tk)(n:Nat)(R:dP)(s0:PS):Option PS:=if eI (aG toks s0.pos) [[124,124]]=true then(((cJ toks) s0).bind λs1=>((cF 12 (aIe toks n R)) s1).bind λs2=>((R .expr) s2).bind λs3=>some s3)else(((cJ toks) s0).bind λs1=>((R (.params ([124]))) s1).bind λs2=>((R .expr) s2).bind λs3=>some s3)
theorem aKb{toks:List Tk}{ip n:Nat}{R:dP}(IH:lD toks ip R):FG toks ip 323 [.optr ip 0] (aL1 toks n R) (CD .lambda):=by
 intro s0 s' F0 H0 hm p0 i0;obtain⟨⟨hg,n0a⟩,_⟩:=i0;obtain⟨st0,r0⟩:=p0.row;have hl:=aV p0.len;have f0:=Fr.refl F0 H0;have k0a:=hg;unfold aL1 at hm;refine aF (N:=15) Tryz.func323 rfl rfl z6 λhb'=> ?_;refine qT 2 (a3 y9 fQ (w2 r0 k0a)) ?_;refine qP (w2 r0 k0a) dJ (fM (mB r0) hl p0.pos [[124,124]] z7) ?_;refine oN ?_;refine qI (w2 r0 k0a) (λbt4=> ?_) (λbt4=> ?_)
 ·
  rw[fZ bt4]at hm;obtain⟨s1,e1,hm⟩:=oB hm;refine qW 1 (w2 r0 k0a) (FN.apX (cC toks ip) e1 p0) ?_;rintro _ H1 ⟨rfl,F1,p1,g1⟩;obtain⟨f1,⟨st1,r1⟩,⟨k1a,n1a⟩⟩:=kH f0 p1 g1 k0a n0a;have q1:=aA r1;have b1a:=aA k1a;obtain⟨s2,e2,hm⟩:=oB hm;refine qW 1 (w2 r1 k1a) (FC.apX (cP toks ip 12 349 [] [] aHc (dS [(0,gO)]) (aMc (n:=n) IH)) e2 p1 ⟨⟨k1a,n1a⟩,trivial⟩) ?_;rintro _ H2 ⟨rfl,F2,p2,g2⟩;obtain⟨f2,⟨st2,r2⟩,⟨k2a,n2a⟩⟩:=kH f1 p2 g2 k1a n1a;obtain⟨s3,e3,hm⟩:=oB hm;refine qW 1 (w2 r2 k2a) (FG.apX (IH .expr) e3 p2 ⟨k2a,n2a⟩) ?_;rintro _ H3 ⟨rfl,F3,p3,g3⟩;obtain⟨f3,⟨st3,r3⟩,⟨k3a,n3a⟩⟩:=kH f2 p3 g3 k2a n2a;refine dL ?_;injection hm with hm;subst hm;exact bJ p3 f3
 ·
  rw[gI bt4]at hm;obtain⟨s1,e1,hm⟩:=oB hm;refine qW 1 (w2 r0 k0a) (FN.apX (cC toks ip) e1 p0) ?_;rintro _ H1 ⟨rfl,F1,p1,g1⟩;obtain⟨f1,⟨st1,r1⟩,⟨k1a,n1a⟩⟩:=kH f0 p1 g1 k0a n0a;have q1:=aA r1;have b1a:=aA k1a;obtain⟨s2,e2,hm⟩:=oB hm;refine qW 1 (w2 r1 k1a) (FG.apX (IH (.params ([124]))) e2 p1 ⟨k1a,n1a⟩) ?_;rintro _ H2 ⟨rfl,F2,p2,g2⟩;obtain⟨f2,⟨st2,r2⟩,⟨k2a,n2a⟩⟩:=kH f1 p2 g2 k1a n1a;obtain⟨s3,e3,hm⟩:=oB hm;refine qW 1 (w2 r2 k2a) (FG.apX (IH .expr) e3 p2 ⟨k2a,n2a⟩) ?_;rintro _ H3 ⟨rfl,F3,p3,g3⟩;obtain⟨f3,⟨st3,r3⟩,⟨k3a,n3a⟩⟩:=kH f2 p3 g3 k2a n2a;refine dL ?_;injection hm with hm;subst hm;exact bJ p3 f3
def aK9(toks:List Tk)(n:Nat)(R:dP)(s0:PS):Option PS:=if decide ((aG toks s0.pos).kind=103)=true then(((cF 13 (aNb toks n R)) s0).bind λs1=>some s1)else(some s0)
theorem aJn{toks:List Tk}{ip n:Nat}{R:dP}(IH:lD toks ip R)(b0:Nat):FC Tryz.prog toks ip 239 [.optr b0 0] (aK9 toks n R) cM (eW [(0,gO),(b0, .row [.optr ip 0])]):=by
 refine eN λs0 s' F0 H0 hm p0 i0=> ?_;obtain⟨⟨k0a,n0a⟩,⟨k0b,n0b⟩,_⟩:=i0;have b0a:=aA k0a;have b0b:=aA k0b;obtain⟨st0,r0⟩:=p0.row;have q0:=aA r0;have hl:=aV p0.len;have f0:=Fr.refl F0 H0;unfold aK9 at hm;refine aF (N:=6) Tryz.func239 rfl rfl z6 λhb'=> ?_;refine qT 1 (a2 aJ (w3 r0 k0a k0b)) ?_;refine qP (w3 r0 k0a k0b) mK (fA (mB r0) hl p0.pos) ?_;refine oN ?_;refine qI (w3 r0 k0a k0b) (λbt2=> ?_) (λbt2=> ?_)
 ·
  rw[fZ bt2]at hm;refine qT 2 (a2 aJ (w3 r0 k0a k0b)) ?_;obtain⟨s1,e1,hm⟩:=oB hm;refine qN (w3 r0 k0a k0b) (FC.apX (cP toks ip 13 240 [] [.optr (b0) 0] aKj (dS [(0,gO),(b0, .row [.optr ip 0])]) (aIo (n:=n) IH (b0))) e1 p0 ⟨⟨k0a,n0a⟩,⟨k0b,n0b⟩,trivial⟩) ?_;rintro _ H1 ⟨rfl,F1,p1,g1⟩;obtain⟨f1,⟨st1,r1⟩,⟨k1a,n1a⟩,⟨k1b,n1b⟩⟩:=iN f0 p1 g1 k0a n0a k0b n0b;refine dL ?_;injection hm with hm;subst hm;exact bJ p1 f1
 ·
  rw[gI bt2]at hm;refine qK ?_;refine dL ?_;injection hm with hm;subst hm;exact bJ p0 f0
def aKi(toks:List Tk)(n:Nat)(R:dP)(c:List UInt8)(s0:PS):Option PS:=((pM toks n (c) (aK9 toks n R)) s0).bind λs1=>some s1
theorem aK2{toks:List Tk}{ip n:Nat}{R:dP}(IH:lD toks ip R)(b0 b1:Nat)(c:List UInt8):FC Tryz.prog toks ip 238 [.optr b0 0, .optr b1 0] (aKi toks n R c) cM (eW [(0,gO),(b0, .row [.optr ip 0]),(b1, .row [.str c])]):=by
 refine eN λs0 s' F0 H0 hm p0 i0=> ?_;obtain⟨⟨k0a,n0a⟩,⟨k0b,n0b⟩,⟨k0c,n0c⟩,_⟩:=i0;have b0a:=aA k0a;have b0b:=aA k0b;have b0c:=aA k0c;obtain⟨st0,r0⟩:=p0.row;have q0:=aA r0;have hl:=aV p0.len;have f0:=Fr.refl F0 H0;unfold aKi at hm;refine aF (N:=6) Tryz.func238 rfl rfl z6 λhb'=> ?_;refine qT 3 (a3 y9 aJ (w4 r0 k0a k0b k0c)) ?_;obtain⟨s1,e1,hm⟩:=oB hm;refine qN (w4 r0 k0a k0b k0c) (FC.apX (rJ toks ip n (c) 239 [] [.optr (b0) 0] aIx (dS [(0,gO),(b0, .row [.optr ip 0])]) (λ_ _ _=>nF) (aJn (n:=n) IH (b0))) e1 p0 ⟨⟨k0a,n0a⟩,⟨k0b,n0b⟩,trivial⟩) ?_;rintro _ H1 ⟨rfl,F1,p1,g1⟩;obtain⟨f1,⟨st1,r1⟩,⟨k1a,n1a⟩,⟨k1b,n1b⟩,⟨k1c,n1c⟩⟩:=KV f0 p1 g1 k0a n0a k0b n0b k0c n0c;refine dL ?_;injection hm with hm;subst hm;exact bJ p1 f1
def aI1(toks:List Tk)(n:Nat)(R:dP)(c:List UInt8)(s0:PS):Option PS:=((cF 12 (aKi toks n R (c))) s0).bind λs1=>some s1
theorem aHm{toks:List Tk}{ip n:Nat}{R:dP}(IH:lD toks ip R)(c:List UInt8):FG toks ip 165 [.optr ip 0, .str c] (aI1 toks n R c) (CD (.params c)):=by
 intro s0 s' F0 H0 hm p0 i0;obtain⟨⟨hg,n0a⟩,_⟩:=i0;obtain⟨st0,r0⟩:=p0.row;have q0:=aA r0;have hl:=aV p0.len;have f0:=Fr.refl F0 H0;have k0a:=aA hg [.row [.optr ip 0], .row [.str c]];have b0a:=aA k0a;have k0b:(H0++ [.row [.optr ip 0], .row [.str c]])[H0.length]? =some (.row [.optr ip 0]):=z6
 have n0b:=p0.new0;have b0b:=aA k0b;have k0c:(H0++ [.row [.optr ip 0], .row [.str c]])[H0.length+1]? =some (.row [.str c]):=z6
 have n0c:=p0.new 1;have b0c:=aA k0c;unfold aI1 at hm;refine aF (N:=7) Tryz.func165 rfl rfl z6 λhb'=> ?_;refine qE (a5 y9 aJ r0 q0 hg) ?_;refine qT 2 (a4 aJ r0 q0 hg) ?_;obtain⟨s1,e1,hm⟩:=oB hm;refine qN (a2 hg (w1 r0)) (FC.apX (cP toks ip 12 238 [] [.optr (H0.length) 0, .optr (H0.length+1) 0] aNd (dS [(0,gO),(H0.length, .row [.optr ip 0]),(H0.length+1, .row [.str c])]) (aK2 (n:=n) IH (H0.length) (H0.length+1) (c))) e1 p0 ⟨⟨k0a,n0a⟩,⟨k0b,n0b⟩,⟨k0c,n0c⟩,trivial⟩) ?_;rintro _ H1 ⟨rfl,F1,p1,g1⟩;have f1:=f0.stX g1;obtain⟨st1,r1⟩:=p1.row;have q1:=aA r1;obtain⟨k1a,n1a⟩:=g1.gtX k0a n0a;have b1a:=aA k1a;obtain⟨k1b,n1b⟩:=g1.gtX k0b n0b;have b1b:=aA k1b;obtain⟨k1c,n1c⟩:=g1.gtX k0c n0c;have b1c:=aA k1c;refine dL ?_;injection hm with hm;subst hm;exact bJ p1 f1
def aFe(toks:List Tk)(n:Nat)(R:dP)(s0:PS):Option PS:=if eI (aG toks s0.pos) [[38]]=true then(((cF 19 (aIq toks n R)) s0).bind λs1=>some s1)else(if eI (aG toks s0.pos) [[102,110]]=true then(((cF 20 (aKk toks n R)) s0).bind λs1=>some s1)else(if decide ((aG toks s0.pos).kind=103)=true then(((R (.path true)) s0).bind λs1=>some s1)else(((oH 46) s0).bind λs1=>some s1)))
theorem aAe{toks:List Tk}{ip n:Nat}{R:dP}(IH:lD toks ip R):FG toks ip 163 [.optr ip 0] (aFe toks n R) (CD .typeExpr):=by
 intro s0 s' F0 H0 hm p0 i0;obtain⟨⟨hg,n0a⟩,_⟩:=i0;obtain⟨st0,r0⟩:=p0.row;have q0:=aA r0;have hl:=aV p0.len;have f0:=Fr.refl F0 H0;have k0a:=aA hg [.row [.optr ip 0]];have b0a:=aA k0a;have k0b:(H0++ [.row [.optr ip 0]])[H0.length]? =some (.row [.optr ip 0]):=z6
 have n0b:=p0.new0;have b0b:=aA k0b;unfold aFe at hm;refine aF (N:=23) Tryz.func163 rfl rfl z6 λhb'=> ?_;have x1:=a3 r0 q0 hg;refine qE (a2 aJ x1) ?_;refine qB ?_;refine qT 2 (a4 y9 aJ fQ x1) ?_;refine qP x1 dJ (fM (mB r0) hl p0.pos [[38]] z7) ?_;refine qX x1 ?_;refine qI x1 (λbt4=> ?_) (λbt4=> ?_)
 ·
  rw[fZ bt4]at hm;refine qT 2 (a2 aJ x1) ?_;obtain⟨s1,e1,hm⟩:=oB hm;refine qN (a2 hg (w1 r0)) (FC.apX (cP toks ip 19 233 [] [.optr (H0.length) 0] aJc (dS [(0,gO),(H0.length, .row [.optr ip 0])]) (aJb (n:=n) IH (H0.length))) e1 p0 ⟨⟨k0a,n0a⟩,⟨k0b,n0b⟩,trivial⟩) ?_;rintro _ H1 ⟨rfl,F1,p1,g1⟩;have f1:=f0.stX g1;obtain⟨st1,r1⟩:=p1.row;have q1:=aA r1;obtain⟨k1a,n1a⟩:=g1.gtX k0a n0a;have b1a:=aA k1a;obtain⟨k1b,n1b⟩:=g1.gtX k0b n0b;have b1b:=aA k1b;refine dL ?_;injection hm with hm;subst hm;exact bJ p1 f1
 ·
  rw[gI bt4]at hm;refine qT 2 (a4 y9 aJ fQ x1) ?_;refine qP x1 dJ (fM (mB r0) hl p0.pos [[102,110]] z7) ?_;refine qX x1 ?_;refine qI x1 (λbt11=> ?_) (λbt11=> ?_)
  ·
   rw[fZ bt11]at hm;refine qT 2 (a2 aJ x1) ?_;obtain⟨s1,e1,hm⟩:=oB hm;refine qN (a2 hg (w1 r0)) (FC.apX (cP toks ip 20 234 [] [.optr (H0.length) 0] aLy (dS [(0,gO),(H0.length, .row [.optr ip 0])]) (aLj (n:=n) IH (H0.length))) e1 p0 ⟨⟨k0a,n0a⟩,⟨k0b,n0b⟩,trivial⟩) ?_;rintro _ H1 ⟨rfl,F1,p1,g1⟩;have f1:=f0.stX g1;obtain⟨st1,r1⟩:=p1.row;have q1:=aA r1;obtain⟨k1a,n1a⟩:=g1.gtX k0a n0a;have b1a:=aA k1a;obtain⟨k1b,n1b⟩:=g1.gtX k0b n0b;have b1b:=aA k1b;refine dL ?_;injection hm with hm;subst hm;exact bJ p1 f1
  ·
   rw[gI bt11]at hm;refine qT 1 (a2 aJ x1) ?_;refine qP x1 mK (fA (mB r0) hl p0.pos) ?_;refine qX x1 ?_;refine qI x1 (λbt18=> ?_) (λbt18=> ?_)
   ·
    rw[fZ bt18]at hm;refine qT 1 (a2 aJ x1) ?_;obtain⟨s1,e1,hm⟩:=oB hm;refine ZA (a3 r0 q0 hg) XB ((by first|exact FG.ap0 (IH (.path true)) e1 p0 ⟨k0a,n0a⟩|exact FG.ap' (IH (.path true)) e1 p0 ⟨k0a,n0a⟩|exact FG.ap (IH (.path true)) e1 p0 ⟨k0a,n0a⟩)) ?_;rintro _ H1 ⟨rfl,F1,p1,g1⟩;have f1:=f0.stX g1;obtain⟨st1,r1⟩:=p1.row;have q1:=aA r1;obtain⟨k1a,n1a⟩:=g1.gtX k0a n0a;have b1a:=aA k1a;obtain⟨k1b,n1b⟩:=g1.gtX k0b n0b;have b1b:=aA k1b;refine oN ?_;refine dL ?_;injection hm with hm;subst hm;exact bJ p1 f1
   ·
    rw[gI bt18]at hm;refine qT 1 (a2 aJ x1) ?_;obtain⟨s1,e1,hm⟩:=oB hm;refine qN x1 (FN.apX (rK toks ip) e1 p0) ?_;rintro _ H1 ⟨rfl,F1,p1,g1⟩;have f1:=f0.stX g1;obtain⟨st1,r1⟩:=p1.row;have q1:=aA r1;obtain⟨k1a,n1a⟩:=g1.gtX k0a n0a;have b1a:=aA k1a;obtain⟨k1b,n1b⟩:=g1.gtX k0b n0b;have b1b:=aA k1b;refine dL ?_;injection hm with hm;subst hm;exact bJ p1 f1
def aJ4(toks:List Tk)(n:Nat)(R:dP)(s0:PS):Option PS:=((cJ toks) s0).bind λs1=>((cH toks [[40]]) s1).bind λs2=>if eI (aG toks s1.pos) [[40]]=true then(((pM toks n ([41]) (aFe toks n R)) s2).bind λs3=>some s3)else(some s2)
theorem aI8{toks:List Tk}{ip n:Nat}{R:dP}(IH:lD toks ip R)(b0:Nat):FC Tryz.prog toks ip 228 [.optr b0 0] (aJ4 toks n R) cM (eW [(0,gO),(b0, .row [.optr ip 0])]):=by
 refine eN λs0 s' F0 H0 hm p0 i0=> ?_;obtain⟨⟨k0a,n0a⟩,⟨k0b,n0b⟩,_⟩:=i0;obtain⟨st0,r0⟩:=p0.row;have hl:=aV p0.len;have f0:=Fr.refl F0 H0;unfold aJ4 at hm;refine aF (N:=10) Tryz.func228 rfl rfl z6 λhb'=> ?_;refine qT 1 (a2 aJ (w3 r0 k0a k0b)) ?_;obtain⟨s1,e1,hm⟩:=oB hm;refine qN (w3 r0 k0a k0b) (FN.apX (cC toks ip) e1 p0) ?_;rintro _ H1 ⟨rfl,F1,p1,g1⟩;obtain⟨f1,⟨st1,r1⟩,⟨k1a,n1a⟩,⟨k1b,n1b⟩⟩:=iN f0 p1 g1 k0a n0a k0b n0b;refine qT 2 (a4 y9 aJ fQ (w3 r1 k1a k1b)) ?_;obtain⟨s2,e2,hm⟩:=oB hm;refine qN (w3 r1 k1a k1b) (FN.apX (eG toks ip [[40]] z7) e2 p1) ?_;rintro _ H2 ⟨rfl,F2,p2,g2⟩;obtain⟨f2,⟨st2,r2⟩,⟨k2a,n2a⟩,⟨k2b,n2b⟩⟩:=iN f1 p2 g2 k1a n1a k1b n1b;have q2:=aA r2;have b2a:=aA k2a;have b2b:=aA k2b;refine qI (w3 r2 k2a k2b) (λbt5=> ?_) (λbt5=> ?_)
 ·
  rw[fZ bt5]at hm;refine qT 3 (a2 aJ (w3 r2 k2a k2b)) ?_;obtain⟨s3,e3,hm⟩:=oB hm;refine qN (w3 r2 k2a k2b) (FC.apX (rJ toks ip n ([41]) 163 [.optr ip 0] [] uO (dS [(0,gO)]) (λ_ _ _=>nF) (FG.fc (aAe (n:=n) IH))) e3 p2 ⟨⟨k2a,n2a⟩,trivial⟩) ?_;rintro _ H3 ⟨rfl,F3,p3,g3⟩;obtain⟨f3,⟨st3,r3⟩,⟨k3a,n3a⟩,⟨k3b,n3b⟩⟩:=iN f2 p3 g3 k2a n2a k2b n2b;refine dL ?_;injection hm with hm;subst hm;exact bJ p3 f3
 ·
  rw[gI bt5]at hm;refine qK ?_;refine dL ?_;injection hm with hm;subst hm;exact bJ p2 f2
def aLf(toks:List Tk)(n:Nat)(R:dP)(k:Int)(s0:PS):Option PS:=if(!decide ((aG toks s0.pos).kind=103))=true then(some s0)else(if decide (k=4)=true then(((cF 14 (aIz toks n R)) s0).bind λs1=>some s1)else(((cF 15 (aJ4 toks n R)) s0).bind λs1=>some s1))
theorem aM8{toks:List Tk}{ip n:Nat}{R:dP}(IH:lD toks ip R)(b0 b1:Nat)(k:Int):FC Tryz.prog toks ip 225 [.optr b0 0, .optr b1 0] (aLf toks n R k) cM (eW [(0,gO),(b0, .row [.optr ip 0]),(b1, .row [.int .i64 k])]):=by
 refine eN λs0 s' F0 H0 hm p0 i0=> ?_;obtain⟨⟨k0a,n0a⟩,⟨k0b,n0b⟩,⟨k0c,n0c⟩,_⟩:=i0;have b0a:=aA k0a;have b0b:=aA k0b;have b0c:=aA k0c;obtain⟨st0,r0⟩:=p0.row;have q0:=aA r0;have hl:=aV p0.len;have f0:=Fr.refl F0 H0;unfold aLf at hm;refine aF (N:=15) Tryz.func225 rfl rfl z6 λhb'=> ?_;refine qB ?_;refine qT 1 (a2 aJ (w4 r0 k0a k0b k0c)) ?_;have x1:=w4 r0 k0a k0b k0c;refine qP x1 mK (fA (mB r0) hl p0.pos) ?_;refine qX x1 ?_;refine qI x1 (λbt5=> ?_) (λbt5=> ?_)
 ·
  rw[fZ bt5]at hm;refine qK ?_;refine dL ?_;injection hm with hm;subst hm;exact bJ p0 f0
 ·
  rw[gI bt5]at hm;refine qE (a2 y3 (w4 r0 k0a k0b k0c)) ?_;refine qI x1 (λbt9=> ?_) (λbt9=> ?_)
  ·
   rw[fZ bt9]at hm;refine qT 2 (a2 aJ (w4 r0 k0a k0b k0c)) ?_;obtain⟨s1,e1,hm⟩:=oB hm;refine qN x1 (FC.apX (cP toks ip 14 227 [] [.optr (b0) 0] aHo (dS [(0,gO),(b0, .row [.optr ip 0])]) (aIb (n:=n) IH (b0))) e1 p0 ⟨⟨k0a,n0a⟩,⟨k0b,n0b⟩,trivial⟩) ?_;rintro _ H1 ⟨rfl,F1,p1,g1⟩;obtain⟨f1,⟨st1,r1⟩,⟨k1a,n1a⟩,⟨k1b,n1b⟩,⟨k1c,n1c⟩⟩:=KV f0 p1 g1 k0a n0a k0b n0b k0c n0c;refine dL ?_;injection hm with hm;subst hm;exact bJ p1 f1
  ·
   rw[gI bt9]at hm;refine qT 2 (a2 aJ (w4 r0 k0a k0b k0c)) ?_;obtain⟨s1,e1,hm⟩:=oB hm;refine qN x1 (FC.apX (cP toks ip 15 228 [] [.optr (b0) 0] aM3 (dS [(0,gO),(b0, .row [.optr ip 0])]) (aI8 (n:=n) IH (b0))) e1 p0 ⟨⟨k0a,n0a⟩,⟨k0b,n0b⟩,trivial⟩) ?_;rintro _ H1 ⟨rfl,F1,p1,g1⟩;obtain⟨f1,⟨st1,r1⟩,⟨k1a,n1a⟩,⟨k1b,n1b⟩,⟨k1c,n1c⟩⟩:=KV f0 p1 g1 k0a n0a k0b n0b k0c n0c;refine dL ?_;injection hm with hm;subst hm;exact bJ p1 f1
end Go.Abs
