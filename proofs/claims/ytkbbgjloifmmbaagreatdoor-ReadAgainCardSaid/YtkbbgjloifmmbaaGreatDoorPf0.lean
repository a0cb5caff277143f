/- Short names of theorems of the library. No condition. -/
import Derived.WalkKit
import Derived.WalkSpells
import Derived.WalkLawsBesides
import Derived.Deep.QuietTactic
import Derived.BigQuiet
import Derived.Test.YtkbbgjloifmmbaaGreatDoorProg
open _root_.Go.Proofs.Tryz
open _root_.Bool renaming noConfusion->aAV
namespace Go.Proofs.YtkbbgjloifmmbaaGreatDoor
abbrev ai:=@if_neg
abbrev aV:=@List.getElem?_eq_getElem
abbrev ak:=@if_pos
abbrev bt:=@List.getElem?_eq_some_iff
abbrev aZ:=@Go.bodyPost_ret
abbrev bu:=@List.length_append
abbrev aX:=@Nat.le_refl
abbrev cy:=@List.length_cons
abbrev bV:=@Bool.and_eq_true
abbrev cV:=@List.mem_of_getElem?
abbrev cq:=@List.mem_cons
abbrev cY:=@List.cons_append
abbrev dw:=@decide_eq_true_eq
abbrev dA:=@List.append_assoc
abbrev bS:=@Go.RowKit.Below.refl
abbrev fO:=@Nat.lt_succ_iff_lt_or_eq
abbrev dG:=@List.length_drop
abbrev kH:=@List.takeWhile_append_dropWhile
abbrev je:=@List.length_nil
abbrev eE:=@List.nil_append
abbrev jB:=@List.drop_eq_getElem_cons
abbrev iN:=@List.drop_eq_nil_of_le
abbrev eZ:=@decide_eq_false
abbrev eT:=@List.length_map
abbrev iu:=@List.dropWhile_suffix
abbrev fc:=@List.mem_append
abbrev lH:=@List.eq_nil_of_length_eq_zero
abbrev eU:=@decide_eq_true
abbrev iz:=@Nat.not_lt_zero
abbrev fP:=@List.all_eq_true
abbrev pn:=@List.take_succ_eq_append_getElem
abbrev dY:=@Nat.le_trans
abbrev dW:=@Nat.zero_le
abbrev kI:=@List.take_of_length_le
abbrev fU:=@Option.some.inj
abbrev gC:=@List.drop_drop
abbrev jf:=@List.getElem?_map
abbrev pz:=@List.getLast?_eq_some_getLast
abbrev kJ:=@List.mem_singleton
abbrev mg:=@List.getElem?_eq_none
abbrev k7:=@List.dropWhile_cons
abbrev jC:=@List.take_length
abbrev jD:=@List.append_nil
abbrev jE:=@Bool.eq_iff_iff
abbrev pX:=@List.dropWhile_append_of_pos
abbrev jg:=@List.drop_zero
abbrev gK:=@Nat.add_zero
abbrev pY:=@List.getD_eq_getElem?_getD
abbrev iA:=@Nat.lt_or_ge
abbrev mU:=@List.takeWhile_cons
abbrev lI:=@List.length_take
abbrev tg:=@List.drop_append_of_le_length
abbrev jT:=@Nat.zero_add
abbrev pE:=@List.mem_iff_getElem?
abbrev lJ:=@Go.heap_alloc_new
abbrev tj:=@List.dropWhile_cons_of_neg
abbrev tn:=@List.dropWhile_cons_of_pos
abbrev tu:=@List.takeWhile_cons_of_pos
abbrev ou:=@Nat.lt_of_lt_of_le
abbrev ow:=@Bool.false_eq_true
abbrev rP:=@List.length_eq_zero_iff
abbrev qL:=@List.take_append_drop
abbrev qM:=@Option.some.injEq
abbrev pF:=@Bool.eq_false_iff
abbrev nK:=@Bool.not_false
abbrev mV:=@Bool.not_true
abbrev mW:=@Go.wpQuiet_nil
abbrev pG:=@List.map_append
abbrev yh:=@Array.getElem?_eq_some_iff
abbrev qN:=@List.any_eq_true
abbrev qO:=@List.not_mem_nil
abbrev ox:=@List.map_cons
abbrev tA:=@List.getElem?_drop
abbrev tC:=@List.pairwise_cons
abbrev uA:=@List.take_succ_cons
abbrev wz:=@Nat.mul_le_mul_right
abbrev kn:=@if_false
abbrev qP:=@List.tail_cons
abbrev qQ:=@Go.RowKit.Below.setCell
abbrev pZ:=@Bool.false_or
abbrev tD:=@UInt8.toNat_inj
abbrev yj:=@List.length_singleton
abbrev yl:=@List.singleton_append
abbrev Cn:=@List.takeWhile_prefix
abbrev uC:=@Int.toNat_natCast
abbrev qR:=@List.drop_one
abbrev wA:=@List.all_takeWhile
abbrev ym:=@List.mem_of_getLast?
abbrev Ah:=@beq_eq_false_iff_ne
abbrev wB:=@of_decide_eq_true
abbrev tE:=@List.take_left
abbrev Ai:=@UInt8.le_iff_toNat_le
abbrev EU:=@List.takeWhile_append_of_pos
abbrev tG:=@List.drop_take
abbrev wC:=@Option.map_some
abbrev uD:=@Bool.or_eq_true
abbrev Ji:=@List.findIdx?_eq_some_iff_getElem
abbrev Co:=@List.suffix_iff_eq_drop
abbrev wD:=@List.drop_length
abbrev zW:=@List.mem_cons_of_mem
abbrev zX:=@List.getLast?_concat
abbrev lG:=@if_true
abbrev zY:=@List.reverse_append
abbrev zZ:=@List.flatMap_append
abbrev Aa:=@Go.Calls.quiet_of_same
abbrev Ep:=@List.getElem?_append_left
abbrev wg:=@Nat.min_eq_left
abbrev pW:=@beq_iff_eq
abbrev Er:=@List.getLast?_eq_getElem?
abbrev BP:=@Go.World.frozen?_setCell
abbrev xZ:=@Go.Lib.cell_of_heap
abbrev x8:=@List.getElem_mem
abbrev Es:=@Go.wpList_lookup_own_ok_int
abbrev td:=@Nat.zero_mul
abbrev uz:=@Nat.add_assoc
abbrev wj:=@Go.run_underlying
abbrev x9:=@List.take_zero
abbrev wm:=@Bool.and_false
abbrev BQ:=@List.reverse_reverse
abbrev BR:=@List.dropLast_concat
abbrev Ab:=@Go.World.ownsRow_lit
abbrev ya:=@List.head?_cons
abbrev BS:=@List.length_pos_iff
abbrev BT:=@List.length_reverse
abbrev Et:=@List.drop_of_length_le
abbrev BU:=@Go.RowKit.Below.heap_setCell
abbrev yb:=@List.tail_drop
abbrev IJ:=@List.getElem?_take_of_lt
abbrev Ac:=@List.cons.injEq
abbrev Eu:=@List.mem_of_mem_take
abbrev Ev:=@List.length_dropLast
abbrev Ew:=@List.getLast?_append
abbrev BV:=@Bool.not_eq_true'
abbrev BY:=@List.flatMap_cons
abbrev Ca:=@List.reverse_cons
abbrev yc:=@Bool.true_and
abbrev yd:=@Bool.and_true
abbrev IK:=@decide_eq_false_iff_not
abbrev Cb:=@List.length_tail
abbrev qK:=@or_false
abbrev MK:=@List.dropLast_concat_getLast
abbrev IL:=@List.getElem_cons_zero
abbrev Ex:=@of_decide_eq_false
abbrev Ey:=@List.mem_replicate
abbrev Ez:=@List.getLast?_cons
abbrev Cc:=@List.length_set
abbrev wo:=@eq_comm
abbrev Ce:=@List.head?_drop
abbrev IP:=@List.dropWhile_append
abbrev IQ:=@List.concat_eq_append
abbrev EF:=@Go.Value.slice.injEq
abbrev EG:=@List.ext_getElem?
abbrev ML:=@List.findIdx?_eq_none_iff
abbrev MN:=@List.mem_of_find?_eq_some
abbrev IU:=@List.mem_iff_getElem
abbrev IV:=@List.getElem?_mapIdx
abbrev MO:=@Classical.byContradiction
abbrev Cf:=@Bool.false_and
abbrev Cg:=@List.mem_range
abbrev Ad:=@List.map_set
abbrev EH:=@List.getElem_map
abbrev EI:=@List.mem_reverse
abbrev EJ:=@List.append_inj'
abbrev Ae:=@List.mem_map
abbrev MP:=@Bool.eq_false_or_eq_true
abbrev IW:=@List.replicate_succ
abbrev IZ:=@List.map_congr_left
abbrev I4:=@List.mem_map_of_mem
abbrev Ch:=@List.cons.inj
abbrev SB:=@List.getElem!_eq_getElem?_getD
abbrev I7:=@List.find?_eq_none
abbrev I8:=@List.mem_cons_self
abbrev ye:=@bne_iff_ne
abbrev I9:=@List.head?_reverse
abbrev MQ:=@Array.getElem?_eq_none
abbrev MR:=@List.getElem?_set_self
abbrev SD:=@List.take_append_of_le_length
abbrev Ja:=@List.mem_of_head?
abbrev Jb:=@List.getElem_drop
abbrev Ci:=@getElem!_pos
abbrev MT:=@List.length_mergeSort
abbrev EK:=@Go.run_eql_struct
abbrev Cj:=@List.map_map
abbrev Ck:=@Nat.add_comm
abbrev EM:=@List.drop_left
abbrev MU:=@List.eq_nil_or_concat
abbrev MW:=@List.dropLast_eq_take
abbrev MX:=@UInt8.lt_iff_toNat_lt
abbrev Af:=@Go.wpS_region
abbrev EN:=@List.any_cons
abbrev Jc:=@List.beq_nil_eq
abbrev Jd:=@List.nodup_cons
abbrev tf:=@not_or
abbrev EO:=@List.map_nil
abbrev M0:=@List.map_replicate
abbrev yf:=@ite_self
abbrev M4:=@Nat.eq_zero_or_pos
abbrev Cm:=@Go.info_parts
abbrev wu:=@Ne.symm
abbrev SE:=@List.prefix_iff_eq_take
abbrev M5:=@List.getElem_take
abbrev M6:=@List.foldl_append
abbrev aao:=@List.set_eq_take_append_cons_drop
abbrev ER:=@Nat.mul_one
abbrev SH:=@Option.map_eq_some_iff
abbrev SJ:=@List.head?_eq_getElem?
abbrev SK:=@List.length_eq_one_iff
abbrev SL:=@Nat.div_div_eq_div_mul
abbrev Je:=@Nat.lt_irrefl
abbrev M7:=@decide_eq_decide
abbrev yg:=@dif_pos
abbrev SM:=@Array.getElem?_modify
abbrev SN:=@List.set_append_right
abbrev SR:=@List.length_replicate
abbrev SU:=@Nat.le_of_ble_eq_true
abbrev SV:=@Go.toList_madeCells_one
abbrev ES:=@Nat.mod_lt
abbrev SX:=@List.getElem?_set_ne
abbrev M8:=@Go.run_equalIn_agg
abbrev M9:=@List.find?_some
abbrev SY:=@List.mem_of_mem_drop
abbrev Na:=@Option.any_some
abbrev SZ:=@Bool.or_eq_false_iff
abbrev Nb:=@List.range_succ
abbrev S0:=@List.getElem?_of_mem
abbrev Jf:=@Nat.succ_mul
abbrev Ta:=@Go.Lib.OthersKept.refl
abbrev Ag:=@Go.wpS_seq
abbrev Jg:=@Go.RowKit.Below.alloc
abbrev Jh:=@Go.leaves_cons
abbrev Tb:=@Go.World.grownBy.refl
abbrev Tc:=@Go.Lib.frozen_of_heap
abbrev Td:=@Go.World.ownsMap.kept
abbrev Te:=@List.set_cons_zero
abbrev Tf:=@UInt8.toNat_ofNat'
abbrev Nc:=@List.take_add
abbrev Nf:=@Go.callsD_of_wpS
abbrev aap:=@List.takeWhile_cons_of_neg
abbrev aaq:=@List.getElem?_append_right
abbrev aar:=@Nat.eq_of_mul_eq_mul_right
abbrev Tg:=@List.size_toArray
abbrev aas:=@List.pairwise_iff_getElem
abbrev aat:=@List.getElem?_eq_none_iff
abbrev aau:=@List.mem_take_iff_getElem
abbrev aav:=@Go.World.cell?_setCell_other
abbrev Ng:=@Nat.pow_succ
abbrev Nh:=@Nat.sub_self
abbrev Ti:=@Option.getD_some
abbrev Tj:=@Go.WalkArith.wf_i64
abbrev aaw:=@List.find?_range_eq_some
abbrev Tk:=@beq_self_eq_true
abbrev aax:=@Go.World.cell?_setCell_same
abbrev aay:=@List.eq_of_mem_replicate
abbrev Tl:=@Option.bind_some
abbrev Tm:=@Nat.mod_eq_of_lt
abbrev aaz:=@List.pairwise_mergeSort
abbrev aaA:=@List.getLast?_cons_cons
abbrev aaB:=@List.getElem?_replicate
abbrev aaC:=@List.getElem?_cons_succ
abbrev Tn:=@List.take_left'
abbrev To:=@Go.Oper.upon_value
abbrev Tp:=@List.drop_left'
abbrev aaD:=@List.reverse_singleton
abbrev Tq:=@List.take_take
abbrev aaE:=@Array.getElem?_append
abbrev aaF:=@List.getElem_set_self
abbrev Ts:=@Go.run_neq_struct
abbrev ET:=@dif_neg
abbrev akZ:=@List.getElem?_toArray
abbrev Tt:=@Bool.and_self
abbrev Tu:=@List.all_cons
abbrev Tv:=@Int.lt_or_le
abbrev Ni:=@Go.wpS_of_wp
abbrev Tw:=@Nat.mul_pos
abbrev Ty:=@decide_true
abbrev Tz:=@Subtype.ext
theorem Av{p:Prop}(h:p:=by exact .inr (.inl h)):p:=h
theorem ad0{p:Prop}(h:p:=by right;rw[hr2.1.1,hr2.2];exact⟨by simp,⟨rfl,rfl,rfl,by simp,fun k hk _=>Below.heap_alloc w.drew _ k hk⟩⟩):p:=h
theorem ad6{p:Prop}(h:p:=by clear h1;go_wp2_with fail;go_ret;exact⟨eC (by rw[HQ.oo];rfl),st2,_,by rw[HQ.oo];exact o2,fun h=>by rw[HQ.oo]at h;cases h⟩):p:=h
theorem anL{p:Prop}(h:p:=by go_wp2_with fail;go_ret;exact⟨eC (by rw[HQ.oo];rfl),st2,_,by rw[HQ.oo];exact o2,fun h=>by rw[HQ.oo]at h;cases h⟩):p:=h
theorem ep{p:Prop}(h:p:=by simp[intOf];omega):p:=h
theorem Ax{p:Prop}(h:p:=by go_ret;exact⟨nA HE.oo.symm,gD⟩):p:=h
theorem aes{p:Prop}(h:p:=by go_in;go_wp2;go_ret;exact⟨nA (by rw[E.oo]),rfl⟩):p:=h
theorem aey{p:Prop}(h:p:=by clear h;go_in;go_wp2;go_ret;exact⟨nA (by rw[E.oo]),rfl⟩):p:=h
theorem wK{p:Prop}(h:p:=by go_in;go_wp2;go_ret;exact⟨rfl,rfl⟩):p:=h
theorem ack{p:Prop}(h:p:=by simp only[wC,qM]at hg;subst hg;exact⟨cur,_,hh⟩):p:=h
theorem acw{p:Prop}(h:p:=by exact⟨0,dW _,rfl,hB,by rw[x9,yo,jD];exact hL,K,b0⟩):p:=h
theorem N9{p:Prop}(h:p:=by obtain⟨aA,rfl⟩:=bt.1 hy;exact pn aA):p:=h
theorem acM{p:Prop}(h:p:=by go_roundw;exact⟨k+1,ah,by go_num,hB,hL,K,b0⟩;simp[intOf];omega):p:=h
theorem acV{p:Prop}(h:p:=by go_roundw;exact⟨k+1,ah,by go_num,l7,o2,wS,E2⟩;simp[intOf];omega):p:=h
theorem Au{p:Prop}(h:p:=by go_ret;exact⟨eC ((show _=_ from by first|rfl|simp).trans E2.oo.symm),gD⟩):p:=h
theorem JL{p:Prop}(h:p:=by go_ret;exact⟨eC (E.oo.symm),gD⟩):p:=h
theorem Ob{p:Prop}(h:p:=by go_ret;exact⟨eC E.oo.symm,gD⟩):p:=h
theorem Oc{p:Prop}(h:p:=by go_ret;exact⟨eC (P3.oo.symm),gD⟩):p:=h
theorem adC{p:Prop}(h:p:=by go_ret;exact⟨eC (by rw[P4.oo];first|rfl|(simp<;>omega)),gD⟩):p:=h
theorem Cy{p:Prop}(h:p:=by simp at this;omega):p:=h
theorem adR{p:Prop}(h:p:=by obtain⟨c0,c1,c2,c3,c4,c5,c6,c7,c8,c9,c10,c11⟩:=b0.cells;go_in;go_wp2_with fail;go_ret;exact⟨rfl,HA.oo⟩):p:=h
theorem adV{p:Prop}(h:p:=by have HZ:=af (alu sQ.oo HX.oo HF.oo);go_wp2_with fail;go_ret;rw[HZ.oo];exact⟨rfl,aI HA.oo E⟩):p:=h
theorem UY{p:Prop}(h:p:=by go_roundw;exact⟨j+1,ah,by go_num,E,x1,mB.oo rfl⟩;simp[intOf];omega):p:=h
theorem qc{p:Prop}(h:p:=by go_wp2_with fail;go_ret;rw[HZ.oo];exact⟨rfl,aI HA.oo E⟩):p:=h
theorem adW{p:Prop}(h:p:=by go_in;go_wp2_with fail;go_ret;exact⟨rfl,HA.oo⟩):p:=h
theorem adX{p:Prop}(h:p:=by exact⟨0,ah,rfl,bS _ _,fun j x hj=>absurd hj (iz j)⟩):p:=h
theorem JO{p:Prop}(h:p:=by go_roundw;exact⟨k+1,ah,by go_num,E,fC⟩;simp[intOf];omega):p:=h
theorem adY{p:Prop}(h:p:=by exact⟨0,ah,rfl,E,by rw[jg];exact HR.oo.symm⟩):p:=h
theorem adZ{p:Prop}(h:p:=by exact⟨0,ah,rfl,E,fun j x hj=>absurd hj (iz j)⟩):p:=h
theorem JP{p:Prop}(h:p:=by go_roundw;exact⟨j+1,ah,by go_num,E,mB⟩;simp[intOf];omega):p:=h
theorem ad1{p:Prop}(h:p:=by subst e0;have HZ:=af (show ew t=91 by rw[<-HD.oo,awT Mh.oo (aS fE),ai ah]);go_wp2_with fail;go_ret;rw[HZ.oo];exact⟨rfl,aI HA.oo E⟩):p:=h
theorem Of{p:Prop}(h:p:=by go_roundw;exact⟨k+1,ah,by go_num,E,HD⟩;simp[intOf];omega):p:=h
theorem ad2{p:Prop}(h:p:=by have HZ:=af (show ew t=e by rw[<-HD.oo,ai h0]);go_wp2_with fail;go_ret;rw[HZ.oo];exact⟨rfl,aI HA.oo E⟩):p:=h
theorem ad3{p:Prop}(h:p:=by have HZ:=af (show ew t=0 by rw[<-HD.oo];exact aw3);go_wp2_with fail;go_ret;rw[HZ.oo];exact⟨rfl,aI HA.oo E⟩):p:=h
theorem ad4{p:Prop}(h:p:=by exact⟨0,ah,rfl,bS _ _,fun k hk=>absurd hk (iz k)⟩):p:=h
theorem JQ{p:Prop}(h:p:=by go_wp2_with fail;go_ret;exact⟨eC HZ.oo.symm,E⟩):p:=h
theorem ad5{p:Prop}(h:p:=by have z:((l.length:Int) != m.length)=true:=aC;clear yJ;go_in;go_wp2_with fail;go_ret;exact⟨eC HZ.oo.symm,bS _ _⟩):p:=h
theorem Aw{p:Prop}(h:p:=by go_ret;exact⟨false,rfl,⟨fun h=>Bool.noConfusion h,fun h=>absurd h HZ.oo⟩,HA.oo⟩):p:=h
theorem UZ{p:Prop}(h:p:=by go_ret;exact⟨false,rfl,⟨fun h=>Bool.noConfusion h,fun h=>absurd h HZ.oo⟩,aI HA.oo E⟩):p:=h
theorem Fo{p:Prop}(h:p:=by exact HM.oo i y h hy):p:=h
theorem Fp{p:Prop}(h:p:=by have E:=aI E1 E2;go_wp2;go_ret;exact⟨nA (by rw[HF.oo];rfl),E⟩):p:=h
theorem U1{p:Prop}(h:p:=by go_wp2;go_ret;exact⟨nA (by rw[HF.oo];rfl),E1⟩):p:=h
theorem ad7{p:Prop}(h:p:=by go_wp2;go_ret;have hf:=HF.oo;subst hf;exact⟨a,c,rfl,hO,E⟩):p:=h
theorem U2{p:Prop}(h:p:=by go_ret2;exact⟨v,_,rfl,HO.oo _,E⟩):p:=h
theorem ad8{p:Prop}(h:p:=by have AT:=af (TF s hl hv);have HO:=af (asj hv);go_in;go_wp2_with fail;refine(AT.oo _ g).mono ?_;rintro e w1 ⟨n,tp,p,rfl,E⟩;go_wp2;go_ret2;exact⟨n,_,rfl,HO.oo _,E⟩):p:=h
theorem ad9{p:Prop}(h:p:=by have FL:=af (FL.oo _ (HR.oo.below E));have HE:=af E;go_wp2_with fail;refine FL.oo.mono ?_;rintro e w5 ⟨rfl,q⟩;unfold jw;go_wp2;exact⟨rfl,(bX (bw:=rb) HE.oo).trans (bX q.cm),.inl ⟨_,rfl,rfl⟩⟩):p:=h
theorem aea{p:Prop}(h:p:=by exact⟨0,ah,rfl,gD,fun m hm=>absurd hm (iz m)⟩):p:=h
theorem aeb{p:Prop}(h:p:=by go_wp2_with fail;refine LC.oo.mono ?_;rintro e w2 h;obtain⟨rfl,S3⟩:=h.err rfl;unfold jw;go_wp2;exact⟨rfl,S.oo.trans S3,.inl ⟨_,rfl,rfl⟩⟩):p:=h
theorem U3{p:Prop}(h:p:=by exact⟨0,ah,rfl,fun m hm=>absurd hm (iz m)⟩):p:=h
theorem aec{p:Prop}(h:p:=by go_wp2_with fail;go_ret2;exact⟨aiZ (by rw[HR.oo]) (by rw[HR.oo]),rfl⟩):p:=h
theorem U4{p:Prop}(h:p:=by go_in;go_wp2;go_ret2;exact⟨[],false,rfl,HO.oo,aq,gD⟩):p:=h
theorem Fq{p:Prop}(h:p:=by exact⟨rfl,bS _ _⟩):p:=h
theorem JR{p:Prop}(h:p:=by go_wp2;go_ret;exact⟨rfl,E⟩):p:=h
theorem aed{p:Prop}(h:p:=by go_wp2;exact aZ (by simp[results,Tryz.results119,go_sem]<;>rfl) rfl ⟨congrArg Ending.returned HZ.oo,Dn⟩):p:=h
theorem aee{p:Prop}(h:p:=by exact aZ (by simp[results,Tryz.results119,go_sem]<;>rfl) rfl ⟨congrArg Ending.returned HZ.oo,Dn⟩):p:=h
theorem aef{p:Prop}(h:p:=by have z:(r != 0)=true:=aS h0;have CH:=af CH;go_in;go_wp2_with fail;refine CH.oo.mono ?_;rintro e1 w1 ⟨rfl,E1⟩;have B:=aI B E1;go_wp2;go_ret2;exact IE.none hT.oo rfl B):p:=h
theorem aeg{p:Prop}(h:p:=by go_in;go_wp2;go_ret;exact⟨eC (by rw[bU,bU,Nv]),gD⟩):p:=h
theorem Og{p:Prop}(h:p:=by go_in;go_wp2;go_ret;exact⟨rfl,gD⟩):p:=h
theorem aeh{p:Prop}(h:p:=by exact⟨0,none,0,dW _,rfl,rfl,rfl,bS _ _,au.nil _ _ _ _,by simp[Hid]⟩):p:=h
theorem Fs{p:Prop}(h:p:=by rw[hz,HT.oo.1];exact o5):p:=h
theorem Ft{p:Prop}(h:p:=by rw[TK.oo];exact NM.oo):p:=h
theorem aei{p:Prop}(h:p:=by exact⟨0,none,0,[],ah,rfl,rfl,bS _ _,au.nil _ _ _ _,aq,rfl⟩):p:=h
theorem aej{p:Prop}(h:p:=by go_roundw;exact⟨k+1,a,c,N,ah,by go_num,rfl,E,o,ah,ig⟩;simp[intOf];omega):p:=h
theorem aek{p:Prop}(h:p:=by exact⟨0,ah,rfl,E,els,fun m x hm=>absurd hm (iz m)⟩):p:=h
theorem ael{p:Prop}(h:p:=by go_roundw;exact⟨j+1,ah,by go_num,E,els,mB⟩;simp[intOf];omega):p:=h
theorem aem{p:Prop}(h:p:=by simp only[qM,Obj.cells.injEq]at h2;exact aN h2.2.1.symm):p:=h
theorem U5{p:Prop}(h:p:=by rw[bu];unfold dz;rw[G9];exact o6):p:=h
theorem Oh{p:Prop}(h:p:=by go_ret2;exact⟨rfl,B⟩):p:=h
theorem U6{p:Prop}(h:p:=by exact⟨0,ah,rfl,fun i x hi=>absurd hi (iz i)⟩):p:=h
theorem U7{p:Prop}(h:p:=by go_in;go_wp2;go_ret;exact⟨eC HF.oo.symm,rfl⟩):p:=h
theorem aen{p:Prop}(h:p:=by go_roundw;exact⟨m+1,ah,by go_num,oJ,gJ⟩;simp[intOf];omega):p:=h
theorem aeo{p:Prop}(h:p:=by go_roundw;exact⟨m+1,ah,ah,by go_num,oJ,.inl ⟨rfl,gJ⟩⟩;simp[intOf];omega):p:=h
theorem U8{p:Prop}(h:p:=by go_roundw;exact⟨k+1,a3,c3,ah,by go_num,rfl,o4,BD,B3⟩;simp[intOf];omega):p:=h
theorem aep{p:Prop}(h:p:=by have E:=af e;go_in;go_wp2;go_ret;exact⟨eC E.oo.symm,oJ⟩):p:=h
theorem aeq{p:Prop}(h:p:=by exact⟨rfl,by rw[E.oo];exact V.oo.uF,V.oo.cF,V.oo.yU⟩):p:=h
theorem anM{p:Prop}(h:p:=by refine LC.oo.mono ?_;rintro e w2 h;obtain⟨rfl,S3⟩:=h.err rfl;unfold jw;go_wp2;exact⟨rfl,S.oo.trans S3,.inl ⟨_,rfl,rfl⟩⟩):p:=h
theorem aer{p:Prop}(h:p:=by obtain⟨p0,p1,p2⟩:=b2.tI;have HS:=af ((St.new (St.refl w rb) ke).trans (S.oo.trans S3));have RE:=af R3;have HX:=af hx;go_wp2;exact aZ (by simp[results,Tryz.results350,go_sem,p0,p1,p2]) rfl ⟨St.put (St.put (St.put HS.oo (aX _) _ _) (aX _) _ _) (aX _) _ _,.inr ⟨⟨-1,0,x⟩,k2,rfl,⟨rfl,HX.oo⟩,((RE.oo.put aN nG.oo _ _).put aN nG.oo _ _).put aN nG.oo _ _⟩⟩):p:=h
theorem Oi{p:Prop}(h:p:=by have:=(hN.lt b hb).1;simp at e;omega):p:=h
theorem anN{p:Prop}(h:p:=by rintro e w1 h;obtain⟨rfl,S⟩:=h.err rfl;unfold jw;go_wp2;exact⟨rfl,(St.new (St.refl w rb) fR).trans S,.inl ⟨_,rfl,rfl⟩⟩):p:=h
theorem U9{p:Prop}(h:p:=by unfold nH;rw[qU,uJ,bu];exact k9):p:=h
theorem aet{p:Prop}(h:p:=by have RW:=af RW;go_in;go_wp2_with fail;refine RW.oo.mono ?_;rintro e w1 h;obtain⟨rfl,S⟩:=h.err rfl;unfold jw;go_wp2;exact⟨rfl,(St.new (St.refl w rb) fR).trans S,.inl ⟨_,rfl,rfl⟩⟩):p:=h
theorem aeu{p:Prop}(h:p:=by unfold jw;go_wp2;exact⟨rfl,(St.new (St.refl w rb) fR).trans (S.oo.trans S3),.inl ⟨_,rfl,rfl⟩⟩):p:=h
theorem Va{p:Prop}(h:p:=by rw[gQ]at this;exact this):p:=h
theorem aev{p:Prop}(h:p:=by go_wp2_with fail;refine TX.oo.mono ?_;rintro e wa h;obtain⟨rfl,S9⟩:=h.err (show _=Except.error er by rw[HX.oo];rfl);unfold jw;go_wp2_with fail;exact⟨rfl,(St.new (St.refl w rb) (zC 0)).trans (C.oo.st.trans S9),.inl ⟨_,rfl,rfl⟩⟩):p:=h
theorem anO{p:Prop}(h:p:=by obtain⟨rfl,S9⟩:=h.err (show _=Except.error er by rw[HX.oo];rfl);unfold jw;go_wp2_with fail;exact⟨rfl,(St.new (St.refl w rb) (zC 0)).trans (C.oo.st.trans S9),.inl ⟨_,rfl,rfl⟩⟩):p:=h
theorem aew{p:Prop}(h:p:=by refine⟨_,by simp[results,Tryz.results82,go_sem];rfl,?_⟩;exact⟨gD,rfl⟩):p:=h
theorem Fu{p:Prop}(h:p:=by exact cJ w _ _ j):p:=h
theorem aex{p:Prop}(h:p:=by have a1:=h0.grown h1.grown hB (fun r hr=>by simp at hr;omega);have a2:=a1.grown h2.grown (by rw[h1.size];exact hB) (fun r hr=>by simp at hr;omega);exact a2.grown h3.grown (by rw[h2.size,h1.size];exact hB) (fun r hr=>by simp at hr;omega)):p:=h
theorem Oj{p:Prop}(h:p:=by subst hr h;exact⟨rfl,hb⟩):p:=h
theorem aez{p:Prop}(h:p:=by have E:=aI E E2;obtain⟨⟨d0,d1,d2,d3,d4,d5,d6,d7⟩,hf,aA,B⟩:=gE E;clear E E2;go_wp2;exact aZ (by simp[results,Tryz.results43,go_sem,d0,d1,d2,d3,d4,d5,d6,d7]) rfl (dr.no HP.oo rfl cG)):p:=h
theorem aeA{p:Prop}(h:p:=by go_wp2;exact aZ (by simp[results,Tryz.results43,go_sem,d0,d1,d2,d3,d4,d5,d6,d7]) rfl (dr.no HP.oo rfl cG)):p:=h
theorem aeB{p:Prop}(h:p:=by rw[qm _ ay,qn _ ay,e];show _::aY (32::r)=_;rw[qm _ ay];rfl):p:=h
theorem Fv{p:Prop}(h:p:=by simp at hc;subst hc;decide):p:=h
theorem aeC{p:Prop}(h:p:=by exact⟨⟨ aq,aq⟩,⟨ aq,aq⟩,PV hn,aq⟩):p:=h
theorem Vb{p:Prop}(h:p:=by rw[bV]at h1;exact⟨PV h1.1,aq⟩):p:=h
theorem Vc{p:Prop}(h:p:=by obtain⟨b,h, -⟩:=sH ((aM r).takeWhile (· != 10));have h4:=congrArg List.length h;have h5:=(Cn (l:=aM r) (· != 10)).length_le;rw[bu]at h4;unfold bB;omega):p:=h
theorem mZ{p:Prop}(h:p:=by simp only[bu,cy,je];omega):p:=h
theorem JS{p:Prop}(h:p:=by go_ret;rw[HZ.oo];exact⟨rfl,HA.oo⟩):p:=h
theorem aeD{p:Prop}(h:p:=by have HZ:=af (show cM t=e1 by rw[aj0 HB.oo rL.oo (by rw[nE.oo];exact h1),nE.oo]);go_wp2_with fail;go_ret;rw[HZ.oo];exact⟨rfl,aI HA.oo E⟩):p:=h
theorem acg{p:Prop}(h:p:=by have HZ:=af (show cM t=e2 by rw[ajZ HB.oo rL.oo nE.oo (by rw[rK.oo];exact h2),rK.oo]);go_wp2_with fail;go_ret;rw[HZ.oo];exact⟨rfl,aI HA.oo E⟩):p:=h
theorem UJ{p:Prop}(h:p:=by refine mW ?_;intro _ hw';obtain⟨⟨dq,dJ⟩,hw''⟩:=hw';subst hw'';have EQ:=below_regrown W1 dq dJ;go_wp2_with fail;go_ret;rw[HZ.oo];exact⟨rfl,aI HA.oo EQ⟩):p:=h
theorem ach{p:Prop}(h:p:=by go_roundw;exact⟨k+1,l2,ah,by go_num,E5,b3,gh,HT⟩;simp[intOf];omega):p:=h
theorem UK{p:Prop}(h:p:=by go_ret;exact⟨eC HY.oo,rfl⟩):p:=h
theorem NW{p:Prop}(h:p:=by go_in;go_wp2;go_ret2;exact⟨0,false,rfl,HR.oo,Dn⟩):p:=h
theorem UL{p:Prop}(h:p:=by go_in;go_wp2;go_ret;exact⟨eC HD.oo.symm,rfl⟩):p:=h
theorem aci{p:Prop}(h:p:=by go_wp2;go_ret2;exact⟨aiZ (by rw[HR.oo]) (by rw[HR.oo]),E⟩):p:=h
theorem JK{p:Prop}(h:p:=by go_roundw;exact⟨k2,a',c',out++[u],ah,by go_num,aq,aC,jJ,pR,mm⟩;simp[intOf];omega):p:=h
theorem UM{p:Prop}(h:p:=by go_roundw;exact⟨k+1,a',c',out++[u],ah,by go_num,aq,aC,jJ,pR,mm⟩;simp[intOf];omega):p:=h
theorem acj{p:Prop}(h:p:=by have V:=af (V.oo.step S1 R1);obtain⟨p0,p1,p2,q0,q1,q2,f1,f2,c0,c1,c2,c3,c4,c5,c6,fz,lt,fk,aN,dn,dS⟩:=V.oo.all;go_wp2_with fail;exact aZ (by simp[results,Tryz.results301,go_sem,p0,p1,p2,dQ,dP]<;>rfl) rfl (V.oo.err HA.oo (by(repeat refine wP ?_ _ _);exact wQ _ _) ⟨dQ,rfl,ay⟩)):p:=h
theorem acm{p:Prop}(h:p:=by refine WR.oo.mono ?_;rintro e w2 ⟨rfl,S1,R1⟩;have V:=af (V.oo.step S1 R1);obtain⟨p0,p1,p2,q0,q1,q2,f1,f2,c0,c1,c2,c3,c4,c5,c6,fz,lt,fk,aN,dn,dS⟩:=V.oo.all;go_wp2_with fail;exact aZ (by simp[results,Tryz.results301,go_sem,p0,p1,p2,dQ,dP]<;>rfl) rfl (V.oo.err HA.oo (by(repeat refine wP ?_ _ _);exact wQ _ _) ⟨dQ,rfl,ay⟩)):p:=h
theorem N0{p:Prop}(h:p:=by obtain⟨⟨d0,d1,d2,d3,d4⟩,hf,aA,B⟩:=yE E;clear E;go_wp2;exact aZ (by simp[results,Tryz.results49,go_sem,d0,d1,d2,d3,d4,dP]<;>rfl) rfl ⟨⟨n,k,[],[],0⟩,false,rfl,HO.oo,Dx B iQ⟩):p:=h
theorem acn{p:Prop}(h:p:=by have HO:=af HO.oo;rw[z0]at HO;clear h0;obtain⟨⟨d0,d1,d2,d3,d4⟩,hf,aA,B⟩:=yE E;clear E;go_wp2;exact aZ (by simp[results,Tryz.results49,go_sem,d0,d1,d2,d3,d4,dP]<;>rfl) rfl ⟨⟨n,k,[],[],0⟩,(decide (n<16)),rfl,HO.oo,Dx B iQ⟩):p:=h
theorem aco{p:Prop}(h:p:=by have HO:=af HO.oo;rw[z0]at HO;clear h0;obtain⟨⟨d0,d1,d2,d3,d4⟩,hf,aA,B⟩:=yE E;clear E;go_wp2;exact aZ (by simp[results,Tryz.results49,go_sem,d0,d1,d2,d3,d4,dP]<;>rfl) rfl ⟨⟨n,k,[],[],0⟩,false,rfl,HO.oo,Dx B iQ⟩):p:=h
theorem acp{p:Prop}(h:p:=by exact aZ (by simp[results,Tryz.results49,go_sem,d0,d1,d2,d3,d4,dP]<;>rfl) rfl ⟨⟨-1,0,s,[],0⟩,b,rfl,HO.oo,Dx B iQ⟩):p:=h
theorem acq{p:Prop}(h:p:=by exact aZ (by simp[results,Tryz.results21,go_sem,d0,d1,d2,d3,d4,dP]<;>rfl) rfl (mF.no HP.oo rfl (Dx B iQ))):p:=h
theorem acr{p:Prop}(h:p:=by obtain⟨⟨d0,d1,d2,d3,d4,d5,d6,d7⟩,hf,aA,B⟩:=aor E;go_wp2;exact aZ (by simp[results,Tryz.results19,go_sem,d0,d1,d2,d3,d4,d5,d6,d7]) rfl ⟨rfl,Dx B iQ⟩):p:=h
theorem acs{p:Prop}(h:p:=by go_wp2;exact aZ (by simp[results,Tryz.results105,go_sem,p0,p1,p2,p3,p4,p5,p6,p7,dP]<;>rfl) rfl ⟨⟨2,0,0,0,0,q,[],0⟩,false,rfl,(by unfold de;rw[PM,HV.oo,HP.oo,HR.oo];rfl),tY ((al w kZ).trans (EA.oo.mono aq)) iQ⟩):p:=h
theorem acu{p:Prop}(h:p:=by go_wp2;exact aZ (by simp[results,Tryz.results105,go_sem,p0,p1,p2,p3,p4,p5,p6,p7,dP]<;>rfl) rfl ⟨⟨3,0,0,0,0,d,[],0⟩,false,rfl,(by unfold de;rw[HM.oo,HP.oo,HR.oo];rfl),tY ((al w kZ).trans (EA.oo.mono aq)) iQ⟩):p:=h
theorem acv{p:Prop}(h:p:=by go_in;go_wp2;exact aZ (by simp[results,Tryz.results105,go_sem,p0,p1,p2,p3,p4,p5,p6,p7,dP]<;>rfl) rfl ⟨⟨0,0,0,0,0,[],[],0⟩,false,rfl,HM.oo,tY (al w kZ) iQ⟩):p:=h
theorem N8{p:Prop}(h:p:=by go_wp2;exact aZ (by simp[results,Tryz.results105,go_sem,p0,p1,p2,p3,p4,p5,p6,p7,dP]<;>rfl) rfl ⟨⟨4,0,0,0,v,[],[],0⟩,false,rfl,(by unfold de;rw[HM.oo];simp),tY ((al w kZ).trans (EA.oo.mono aq)) iQ⟩):p:=h
theorem UN{p:Prop}(h:p:=by go_wp2;exact aZ (by simp[results,Tryz.results105,go_sem,p0,p1,p2,p3,p4,p5,p6,p7,dP]<;>rfl) rfl ⟨⟨4,k,0,0,v,[],[],0⟩,false,rfl,(by unfold de;rw[HM.oo,HV.oo];first|done|rfl|simp),tY ((al w kZ).trans (EA.oo.mono aq)) iQ⟩):p:=h
theorem acy{p:Prop}(h:p:=by exact⟨ aq,fun w hw=>by rcases kJ.1 hw with rfl;simp⟩):p:=h
theorem UO{p:Prop}(h:p:=by obtain⟨⟨d0,d1,d2,d3,d4,d5,d6,d7⟩,hf,aA,B⟩:=gE E;go_wp2;exact aZ (by simp[results,Tryz.results46,go_sem,d0,d1,d2,d3,d4,d5,d6,d7]) rfl (dr.no HP.oo rfl cG)):p:=h
theorem acz{p:Prop}(h:p:=by go_wp2;exact aZ (by simp[results,Tryz.results46,go_sem,d0,d1,d2,d3,d4,d5,d6,d7,aA]) rfl (dr.of HO.oo rfl cG)):p:=h
theorem acA{p:Prop}(h:p:=by have V:=af (V.oo.step S1 R1);obtain⟨p0,p1,p2,p3,p4,p5,q0,q1,q2,q3,q4,q5,f1,f2,c0,c1,c2,c3,c4,c5,c6,fz,lt,fk,aN,dn,dS⟩:=V.oo.all;go_wp2_with fail;exact aZ (by simp[results,Tryz.results240,go_sem,p0,p1,p2,p3,p4,p5,dQ,Nd.kind,Nd.th,Nd.val,Nd.a,Nd.c,Nd.aP,dP]<;>rfl) rfl (V.oo.err HA.oo iQ ⟨zNd,rfl⟩)):p:=h
theorem acB{p:Prop}(h:p:=by exact aZ (by simp[results,Tryz.results90,go_sem]<;>rfl) rfl ⟨Dn,rfl⟩):p:=h
theorem acC{p:Prop}(h:p:=by obtain⟨o,st⟩:=au.set h.own aq j v;simp only[jW,kM,jT]at o st;rw[e]at o;exact⟨⟨o,h.cF.setCell (aX _) _,h.gl,h.sl,hk⟩,st⟩):p:=h
theorem acD{p:Prop}(h:p:=by refine⟨rfl,⟨rK.oo,q,yL,ah,rfl,HY⟩,?_⟩;simp[intOf];omega):p:=h
theorem acE{p:Prop}(h:p:=by refine mW ?_;intro _ hw';obtain⟨⟨dq,dJ⟩,hw''⟩:=hw';subst hw'';have xK:=below_regrown w2 dq dJ;have EZ:=af (aI rK.oo xK);generalize grow (redrawn w2 dq) dJ=wq at*;clear d0 xK cA;go_wp2_with fail;simp only[Exit.jump];exact aZ (by simp[results,Tryz.results74,go_sem];rfl) rfl ⟨by rw[<-HN.oo];exact pe.oo,EZ.oo⟩):p:=h
theorem acF{p:Prop}(h:p:=by go_wp2_with fail;refine(FL.oo _ _ _ _).mono ?_;rintro e w4 ⟨rfl,E4⟩;have E:=af (aI E.oo E4);clear E4;go_wp2;exact⟨rfl,(HR.oo.below E.oo).cF,.inl ⟨_,_,P1.oo,rfl⟩⟩):p:=h
theorem acG{p:Prop}(h:p:=by exact⟨R6.oo.cF,.inr ⟨_,_,_,_,P3.oo,Ik.oo,rfl,ST.oo,R6.oo⟩⟩):p:=h
theorem UP{p:Prop}(h:p:=by go_wp2_with fail;refine(FL.oo _ _ _ _).mono ?_;rintro e w4 ⟨rfl,E4⟩;have E:=af (aI E.oo E4);clear E4;go_wp2;exact⟨rfl,(HR.oo.below E.oo).cF,.inl ⟨_,_,P2.oo,rfl⟩⟩):p:=h
theorem acH{p:Prop}(h:p:=by go_wp2;exact aZ (by simp[results,Tryz.results28,go_sem]) rfl ⟨(HR.oo.below E.oo).cF,.inr ⟨_,_,k,P1.oo,rfl,rfl,bX E.oo,by rw[HCY.oo];exact HR.oo.below E.oo⟩⟩):p:=h
theorem anE{p:Prop}(h:p:=by refine(FL.oo _ _ _ _).mono ?_;rintro e w4 ⟨rfl,E4⟩;have E:=af (aI E.oo E4);clear E4;go_wp2;exact⟨rfl,(HR.oo.below E.oo).cF,.inl ⟨_,_,P2.oo,rfl⟩⟩):p:=h
theorem Cw{p:Prop}(h:p:=by go_wp2;go_ret;exact⟨rfl,rfl⟩):p:=h
theorem acI{p:Prop}(h:p:=by exact⟨congrArg Value.string (by rw[HZ.oo];rfl),rfl⟩):p:=h
theorem acJ{p:Prop}(h:p:=by obtain⟨ag,name,bG,ia,ic,init,ca,cc,code,q,node⟩:=t;obtain⟨h1,h2,h3⟩:=h;simp only at h1 h2 h3;subst h1;subst h2;subst h3;rfl):p:=h
theorem acK{p:Prop}(h:p:=by go_wp2_with fail;refine(FL.oo _ _ _ _).mono ?_;rintro e w4 ⟨rfl,E4⟩;have E:=af (aI E.oo E4);clear E4;go_wp2_with fail;exact⟨rfl,(HR.oo.below E.oo).cF,.inl ⟨_,_,P1.oo,rfl⟩⟩):p:=h
theorem acL{p:Prop}(h:p:=by have:=lQ (l:=v) (p:=(· != 125)) (c:=d) (by rw[hd];rfl);have:d=125:=aS this;subst this;exact⟨Y,rfl⟩):p:=h
theorem acN{p:Prop}(h:p:=by have h1:=(au.lt OO.oo aq).2;simp[bk]at hb h1;omega):p:=h
theorem anF{p:Prop}(h:p:=by refine(FL.oo _ _ _ _).mono ?_;rintro e w4 ⟨rfl,E4⟩;have E:=af (aI E.oo E4);clear E4;go_wp2_with fail;exact⟨rfl,(HR.oo.below E.oo).cF,.inl ⟨_,_,P1.oo,rfl⟩⟩):p:=h
theorem acO{p:Prop}(h:p:=by have h1:=(au.lt zQ.oo (by rw[e];simp)).1;rw[e]at hb h1;simp[bk]at hb h1;omega):p:=h
theorem acP{p:Prop}(h:p:=by go_roundw;exact⟨p+1,ah,by go_num,E,Iu⟩;simp[intOf];omega):p:=h
theorem acQ{p:Prop}(h:p:=by exact aZ (by simp[results,Tryz.results83,go_sem]<;>rfl) rfl ⟨pe.oo,E⟩):p:=h
theorem acR{p:Prop}(h:p:=by go_roundw;exact⟨q+1,ah,ah,by go_num,nS⟩;simp[intOf];omega):p:=h
theorem UQ{p:Prop}(h:p:=by go_roundw;exact⟨i+1,ah,ah,by go_num,nS⟩;simp[intOf];omega):p:=h
theorem acS{p:Prop}(h:p:=by refine(WR.oo _ R2.oo _ _).mono ?_;rintro e w9 ⟨rfl,RB⟩;go_wp2;go_ret;exact .inl ⟨_,P1.oo,rfl,_,_,RB⟩):p:=h
theorem acT{p:Prop}(h:p:=by have zm:((m:Int)==(tt:Int))=true:=aC;go_wp2_with fail;refine(WR.oo _ R2.oo _ _).mono ?_;rintro e w9 ⟨rfl,RB⟩;go_wp2;go_ret;exact .inl ⟨_,P1.oo,rfl,_,_,RB⟩):p:=h
theorem acU{p:Prop}(h:p:=by have P3:=af (P3.oo _ _ 1 ig.oo rfl);generalize tx [88,56,54]=ux at*;have R4:=(R3.put 4 (.int .i64 1) (k':=k) (kA:=0) (kq:=0) (t':={ t with ag:=1 }) rfl R3.le);have R5:=(R4.1.put 5 (.string (tx M)) (k':=k) (kA:=0) (kq:=0) (t':={ t with ag:=1,name:=M }) rfl R3.le);have R6:=(R5.1.put 1 (.int .i64 nx) (k':=nx) (kA:=0) (kq:=0) (t':={ t with ag:=1,name:=M }) rfl We);have ST:=af (vZ.oo.trans (R4.2.trans (R5.2.trans R6.2)));replace R6:=af R6.1;clear R3 R4 R5 P1 P2;go_wp2;go_ret;exact .inr ⟨_,_,_,_,P3.oo,qF.oo,rfl,ST.oo,R6.oo⟩):p:=h
theorem acW{p:Prop}(h:p:=by have P3:=af (P3.oo _ _ 2 ig.oo rfl);generalize tx [82,73,83,67,86]=ux at*;have R4:=(R3.put 4 (.int .i64 1) (k':=k) (kA:=0) (kq:=0) (t':={ t with ag:=1 }) rfl R3.le);have Se:=(R4.1.put 4 (.int .i64 2) (k':=k) (kA:=0) (kq:=0) (t':={ t with ag:=2 }) rfl R3.le);have R5:=(Se.1.put 5 (.string (tx M)) (k':=k) (kA:=0) (kq:=0) (t':={ t with ag:=2,name:=M }) rfl R3.le);have R6:=(R5.1.put 1 (.int .i64 nx) (k':=nx) (kA:=0) (kq:=0) (t':={ t with ag:=2,name:=M }) rfl We);have ST:=af (vZ.oo.trans (R4.2.trans (Se.2.trans (R5.2.trans R6.2))));replace R6:=af R6.1;clear R3 R4 Se R5 P1 P2 hx1;go_wp2;go_ret;exact .inr ⟨_,_,_,_,P3.oo,qF.oo,rfl,ST.oo,R6.oo⟩):p:=h
theorem acX{p:Prop}(h:p:=by have P2:=af (P2.oo _ _ ig.oo (by unfold Cp;rw[ai hx1,ai hx2]));clear R3 hx1 hx2 P1 P3 q1 q4 q5;go_wp2_with fail;refine(WR.oo _ R2.oo _ _).mono ?_;rintro e w9 ⟨rfl,RB⟩;go_wp2;go_ret;exact .inl ⟨_,P2.oo,rfl,_,_,RB⟩):p:=h
theorem UR{p:Prop}(h:p:=by go_wp2_with fail;refine(WR.oo _ R2.oo _ _).mono ?_;rintro e w9 ⟨rfl,RB⟩;go_wp2_with fail;go_ret;exact .inl ⟨_,P2.oo,rfl,_,_,RB⟩):p:=h
theorem acY{p:Prop}(h:p:=by go_wp2;exact aZ (by simp[results,Tryz.results55,go_sem,p0,p1]<;>rfl) rfl (Em.mk (lc:=[]) (n:=0) (ok:=false) HV.oo (by first|rfl|(rw[dP])) (yP EB.oo))):p:=h
theorem acZ{p:Prop}(h:p:=by exact aZ (by simp[results,Tryz.results53,go_sem,p0,p1,p2,p3,p4,dP]<;>rfl) rfl (uy.yes HD.oo n3 M3.oo X3.oo rfl (yP EB.oo))):p:=h
theorem ac0{p:Prop}(h:p:=by have EB:=af (E0.oo.trans (E5.mono aC));go_wp2;exact aZ (by simp[results,Tryz.results20,go_sem,p0,p1,p2,p3,p4,p5,p6,p7]<;>rfl) rfl ⟨rfl,(by(repeat with_reducible refine qQ ?_ aq _);exact EB.oo)⟩):p:=h
theorem ac1{p:Prop}(h:p:=by go_roundw;exact⟨j+1,ah,ah,by go_num,nS⟩;simp[intOf];omega):p:=h
theorem ac3{p:Prop}(h:p:=by exact⟨w9.heap.size,q,y,er,kp,rfl,rfl,rfl,aW.new _ _ _,(Gk B9.size),B9.size,hc.keep (al w9 _) (aX _)⟩):p:=h
theorem ac4{p:Prop}(h:p:=by go_wp2;exact aZ (by simp[results,Tryz.results22,go_sem,p0,p1,p2,p3,p4,dP]<;>rfl) rfl (mF.no HZ.oo rfl (Pr EB.oo))):p:=h
theorem ac5{p:Prop}(h:p:=by have EB:=af (nM (nM E));go_wp2;exact aZ (by simp[results,Tryz.results22,go_sem,p0,p1,p2,p3,p4,dP]<;>rfl) rfl (mF.no HZ.oo rfl (Pr EB.oo))):p:=h
theorem US{p:Prop}(h:p:=by have:=(h1 hL).2;subst this;omega):p:=h
theorem ac6{p:Prop}(h:p:=by have h3:=ahY (125::Y) L hL;rw[<-this,cy]at h3;omega):p:=h
theorem UT{p:Prop}(h:p:=by go_wp2_with fail;refine(WR.oo _ _ R2.oo _ _).mono ?_;rintro e w9 ⟨rfl,RB⟩;go_wp2_with fail;go_ret;exact .inl ⟨_,P1.oo,rfl,_,_,RB⟩):p:=h
theorem ac8{p:Prop}(h:p:=by exact⟨w9.heap.size,rfl,rfl,(Gk B9.size),B9.size,aW.new _ _ _⟩):p:=h
theorem ac9{p:Prop}(h:p:=by rintro e LJ ⟨rfl,RB⟩;go_wp2_with fail;go_ret;exact .inl ⟨_,PE.oo,rfl,_,_,RB⟩):p:=h
theorem ada{p:Prop}(h:p:=by go_wp2_with fail;refine(WR.oo _ _ _ R2.oo _ _).mono ?_;rintro e w9 ⟨rfl,RB⟩;go_wp2_with fail;go_ret;exact .inl ⟨_,X1.oo,rfl,_,_,RB⟩):p:=h
theorem adb{p:Prop}(h:p:=by go_wp2_with fail;exact aZ (by simp[results,Tryz.results35,go_sem]) rfl (.inr ⟨C,s.drop kk,kk,ac,nn,X2.oo,rfl,rfl,Sp.oo,R2.oo,RZ.oo⟩)):p:=h
theorem ade{p:Prop}(h:p:=by have h1:=nB s a en Oz OH;rw[Kq]at h1;exact h1):p:=h
theorem adf{p:Prop}(h:p:=by rintro e w9 ⟨rfl,RB⟩;go_wp2_with fail;go_ret;exact .inl ⟨_,XE.oo,rfl,_,_,RB⟩):p:=h
theorem adg{p:Prop}(h:p:=by rintro e LJ ⟨rfl,RB⟩;go_wp2_with fail;go_ret;exact .inl ⟨_,HE.oo,rfl,_,_,RB⟩):p:=h
theorem adh{p:Prop}(h:p:=by go_wp2;go_ret;exact⟨eC (by first|(rw[jE];simp<;>omega)|(simp<;>omega)),rfl⟩):p:=h
theorem UU{p:Prop}(h:p:=by go_wp2;go_ret;exact⟨eC HF.oo.symm,rfl⟩):p:=h
theorem adi{p:Prop}(h:p:=by go_ret;exact⟨eC HF.oo.symm,rfl⟩):p:=h
theorem anG{p:Prop}(h:p:=by go_ret2;exact⟨GZ HR.oo.1.symm HR.oo.2.symm,rfl⟩):p:=h
theorem adj{p:Prop}(h:p:=by have HR:=af (awC HM.oo);go_wp2;go_ret2;exact⟨GZ HR.oo.1.symm HR.oo.2.symm,rfl⟩):p:=h
theorem anH{p:Prop}(h:p:=by go_wp2;go_ret2;exact⟨GZ HR.oo.1.symm HR.oo.2.symm,rfl⟩):p:=h
theorem tM{p:Prop}(h:p:=by go_wp2_with fail;exact aZ (by simp[results,Tryz.results180,go_sem]) rfl ⟨rfl,cG⟩):p:=h
theorem anI{p:Prop}(h:p:=by go_wp2;go_ret;exact⟨nA HE.oo.symm,cG⟩):p:=h
theorem jl{p:Prop}(h:p:=by go_ret;exact⟨nA HE.oo.symm,cG⟩):p:=h
theorem Oa{p:Prop}(h:p:=by go_wp2;go_ret2;exact⟨rfl,E⟩):p:=h
theorem adk{p:Prop}(h:p:=by have h1:=Bb hd;have h2:=Bb ha;unfold cD;rw[h1,h2];simp[gm,rH];decide):p:=h
theorem adl{p:Prop}(h:p:=by have h1:=Bb hd;have h2:=Bb ha;unfold cD;rw[h1,h2];simp[gm,rH,show ek 0=true by decide]):p:=h
theorem adm{p:Prop}(h:p:=by unfold cD;simp[gm,rH,show ek 0=true by decide]):p:=h
theorem UW{p:Prop}(h:p:=by go_wp2_with fail;go_ret;exact⟨Qv bM,cG⟩):p:=h
theorem adn{p:Prop}(h:p:=by go_roundw;exact⟨j+1,ah,by go_num,Mk,p,p2,E⟩;simp[intOf];omega):p:=h
theorem ado{p:Prop}(h:p:=by go_wp2;exact aZ (by simp[results,Tryz.results102,go_sem,d0,d1,d2,d3,d4,d5,d6,d7]) rfl (Rd.of ⟨rfl,cG⟩ HK.oo)):p:=h
theorem adp{p:Prop}(h:p:=by obtain⟨⟨d0,d1,d2,d3,d4,d5,d6,d7⟩,hf,aA,B⟩:=gE E;clear E;go_wp2;exact aZ (by simp[results,Tryz.results102,go_sem,d0,d1,d2,d3,d4,d5,d6,d7]) rfl (Rd.of ⟨rfl,cG⟩ HK.oo)):p:=h
theorem adq{p:Prop}(h:p:=by exact⟨0,ah,rfl,fun j c hj=>absurd hj (iz j)⟩):p:=h
theorem adr{p:Prop}(h:p:=by have HN:=af (show r=none from hkk.oo.symm);clear E q0 q1 q2 q3 q4 q5 q6 q7 bx;go_wp2_with fail;exact aZ (by simp[results,Tryz.results44,go_sem,d0,d1,d2,d3,d4,d5,d6,d7]) rfl (dr.no HN.oo rfl cG)):p:=h
theorem ads{p:Prop}(h:p:=by have E:=aI E E4;obtain⟨⟨d0,d1,d2,d3,d4,d5,d6,d7⟩,hf,aA,B⟩:=gE E;clear E E4 q0 q1 q2 q3 q4 q5 q6 q7 bx;go_wp2_with fail;exact aZ (by simp[results,Tryz.results44,go_sem,d0,d1,d2,d3,d4,d5,d6,d7]) rfl (dr.no HN.oo rfl cG)):p:=h
theorem adt{p:Prop}(h:p:=by have E:=aI E E4;have bx:=bx.below E4;clear q0 q1 q2 q3 q4 q5 q6 q7;obtain⟨q0,q1,q2,q3,q4,KV,q6,q7⟩:=bx.cells;have q5:w9.cell? ⟨bb,5,none⟩=some (.string ⟨#[]⟩):=KV;clear KV;obtain⟨⟨d0,d1,d2,d3,d4,d5,d6,d7⟩,hf,aA,B⟩:=gE E;clear E E4 bx;go_wp2_with fail;exact aZ (by simp[results,Tryz.results44,go_sem,d0,d1,d2,d3,d4,d5,d6,d7]) rfl (dr.yes HN.oo rfl cG)):p:=h
theorem adu{p:Prop}(h:p:=by rw[show decide ((⟨1,0,0,0,ax,aj,[],0⟩:aL)=⟨1,d,a,b,ax,aj,av,az⟩)=decide ((⟨1,d,a,b,ax,aj,av,az⟩:aL)=⟨1,0,0,0,ax,aj,[],0⟩)from decide_eq_decide.mpr wo];rfl):p:=h
theorem adv{p:Prop}(h:p:=by rw[show decide ((⟨2,0,a,0,0,aj,[],0⟩:aL)=⟨2,d,a,b,ax,aj,av,az⟩)=decide ((⟨2,d,a,b,ax,aj,av,az⟩:aL)=⟨2,0,a,0,0,aj,[],0⟩)from decide_eq_decide.mpr wo];rfl):p:=h
theorem adw{p:Prop}(h:p:=by rw[show decide ((⟨3,d,0,0,0,aj,[],0⟩:aL)=⟨3,d,a,b,ax,aj,av,az⟩)=decide ((⟨3,d,a,b,ax,aj,av,az⟩:aL)=⟨3,d,0,0,0,aj,[],0⟩)from decide_eq_decide.mpr wo];rfl):p:=h
theorem adx{p:Prop}(h:p:=by rw[show decide ((⟨4,d,0,0,ax,[],[],0⟩:aL)=⟨4,d,a,b,ax,aj,av,az⟩)=decide ((⟨4,d,a,b,ax,aj,av,az⟩:aL)=⟨4,d,0,0,ax,[],[],0⟩)from decide_eq_decide.mpr wo];rfl):p:=h
theorem ady{p:Prop}(h:p:=by rw[show decide ((⟨5,0,0,0,0,[],[],0⟩:aL)=⟨5,d,a,b,ax,aj,av,az⟩)=decide ((⟨5,d,a,b,ax,aj,av,az⟩:aL)=⟨5,0,0,0,0,[],[],0⟩)from decide_eq_decide.mpr wo];rfl):p:=h
theorem Od{p:Prop}(h:p:=by go_in;go_wp2;go_ret;exact⟨nA HE.oo.symm,cG⟩):p:=h
theorem adz{p:Prop}(h:p:=by unfold fh eM;simp only;rw[ai ah,ai ah,ai ah,ai ah,eZ ah];rfl):p:=h
theorem adA{p:Prop}(h:p:=by go_in;go_wp2;go_ret;exact⟨eC HE.oo.symm,cG⟩):p:=h
theorem adB{p:Prop}(h:p:=by have h3:=afD (weak and y.kind) (fN ag y);rw[vF,qT];simp only[bu];omega):p:=h
theorem adD{p:Prop}(h:p:=by have h3:=afD (weak and y.kind) (fN ag y);rw[y9,qT];simp only[bu];omega):p:=h
theorem adE{p:Prop}(h:p:=by have:=ih ah;rw[kI (show l.length<=m by omega)]at this;rw[kI (show l.length<=m+1 by omega)];exact this):p:=h
theorem adF{p:Prop}(h:p:=by exact(((((L ay).app (yX _)).app (L ay)).app (yX _)).app (L ay))):p:=h
theorem adG{p:Prop}(h:p:=by exact(((((L ay).app (yX _)).app (L ay)).app (yX _)).app (L ay)).app (yX _)):p:=h
theorem adH{p:Prop}(h:p:=by rw[ai h4]at ho hw;simp only[dw]at ho;rw[ho]at hw;exact .inr (.inr (.inr (.inr hw)))):p:=h
theorem Cx{p:Prop}(h:p:=by go_wp2;go_ret;exact⟨eC E.oo.symm,gD⟩):p:=h
theorem anJ{p:Prop}(h:p:=by go_ret;exact⟨eC HE.oo.symm,gD⟩):p:=h
theorem JM{p:Prop}(h:p:=by go_wp2;go_ret;exact⟨eC HE.oo.symm,gD⟩):p:=h
theorem adI{p:Prop}(h:p:=by clear h1;go_in;go_wp2;go_ret2;exact⟨GZ (by rw[HQ.oo]) (by rw[HQ.oo]),gD⟩):p:=h
theorem anK{p:Prop}(h:p:=by go_wp2;go_ret2;exact⟨GZ (by rw[HQ.oo]) (by rw[HQ.oo]),gD⟩):p:=h
theorem adJ{p:Prop}(h:p:=by go_wp2;go_ret2;have B:=aI B E;exact⟨GZ (by rw[HST.oo]) (by rw[HST.oo]),gD⟩):p:=h
theorem adK{p:Prop}(h:p:=by have hz:(tx []).size=0:=rfl;go_wp2;go_ret;exact⟨Qv (by rw[HR.oo]),rfl⟩):p:=h
theorem adL{p:Prop}(h:p:=by go_ret;exact⟨Qv (by rw[HR.oo]),rfl⟩):p:=h
theorem adM{p:Prop}(h:p:=by go_roundw;exact⟨k+1,k+1,P++[aG q],a3,c3,ah,by go_num,by go_num,aq,aC,by simpa using o4,B3,HR.oo⟩;simp[intOf];omega):p:=h
theorem adN{p:Prop}(h:p:=by clear hn h0;go_in;go_wp2;go_ret2;exact om.no _ HR.oo):p:=h
theorem adO{p:Prop}(h:p:=by go_in;go_wp2;go_ret2;exact om.no _ HR.oo):p:=h
theorem adP{p:Prop}(h:p:=by go_wp2;go_ret2;exact om.no _ HR.oo):p:=h
theorem adQ{p:Prop}(h:p:=by simp only[Ah,ne_eq];intro e;exact h48 (tD.1 (by have:(48:UInt8).toNat=48:=rfl;omega))):p:=h
theorem UX{p:Prop}(h:p:=by go_ret2;exact om.no _ HR.oo):p:=h
theorem Oe{p:Prop}(h:p:=by go_wp2;go_ret2;exact Mx.no HR.oo (E.trans ((below_drewN _ _).mono E.size))):p:=h
theorem Cz{p:Prop}(h:p:=by go_wp2_with fail;exact aZ (by simp[results,Tryz.results109,go_sem,d0,d1,d2,d3,d4,d5,d6,d7]) rfl (Rd.of ⟨rfl,cG⟩ HK.oo)):p:=h
theorem adS{p:Prop}(h:p:=by rw[ai hc]at hq;have HK:=af (K0.oo hq.symm);clear hc hq;go_wp2_with fail;exact aZ (by simp[results,Tryz.results109,go_sem,d0,d1,d2,d3,d4,d5,d6,d7]) rfl (Rd.of ⟨rfl,cG⟩ HK.oo)):p:=h
theorem adT{p:Prop}(h:p:=by have E:=al w (.cells #[.string ⟨#[69,65,88]⟩,.string ⟨#[69,66,88]⟩,.string ⟨#[69,67,88]⟩,.string ⟨#[69,68,88]⟩,.string ⟨#[69,83,73]⟩,.string ⟨#[69,68,73]⟩,.string ⟨#[69,66,80]⟩,.string ⟨#[82,56,68]⟩,.string ⟨#[82,57,68]⟩,.string ⟨#[82,49,48,68]⟩,.string ⟨#[82,49,49,68]⟩,.string ⟨#[82,49,50,68]⟩,.string ⟨#[82,49,51,68]⟩,.string ⟨#[82,49,52,68]⟩,.string ⟨#[82,49,53,68]⟩] 9);go_in;go_wp2;go_ret;refine⟨_,rfl,⟨⟨⟨fun _=>rfl,fun i hi=>?_⟩,ay⟩⟩,E⟩;simp only[World.cell?,jW,kM,lJ,jT];rw[ai aq];exact akZ):p:=h
theorem adU{p:Prop}(h:p:=by exact aZ (by simp[results,Tryz.results47,go_sem,d0,d1,d2,d3,d4,d5,d6,d7]) rfl (dr.no HN.oo rfl cG)):p:=h
end Go.Proofs.YtkbbgjloifmmbaaGreatDoor
