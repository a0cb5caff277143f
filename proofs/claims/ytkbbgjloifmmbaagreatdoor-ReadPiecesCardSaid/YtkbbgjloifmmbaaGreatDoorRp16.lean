/- What ReadPiecesP leans on, part 16. -/
import Derived.Laws.Runes
import Derived.Laws.RangeString
import Derived.Scope
import Derived.Shelf.Strings.FieldsFuncGrows
import Derived.Test.YtkbbgjloifmmbaaGreatDoorRp15
import Derived.Shelf.Strings.Search2
set_option linter.unusedVariables false
set_option maxRecDepth 1000000
set_option maxHeartbeats 6400000
namespace Go.Proofs.YtkbbgjloifmmbaaGreatDoor
open Go.RowKit
theorem runeB_low(r:Nat)(h:r<128):decide ((0:Int)<=Lib.indexByte [32,9,10,13] (r:Int).toNat.toUInt8)=runeB r:=by
 have k: ∀n:Fin 128,decide ((0:Int)<=Lib.indexByte [32,9,10,13] ((n.val:Int)).toNat.toUInt8)=runeB n.val:=by decide+kernel
 exact k ⟨r,h⟩
theorem runeB_high(r:Nat)(h:128<=r):runeB r=false:=by unfold runeB;simp;omega
theorem blk_byte: ∀i:Fin 4,((tx [32,9,10,13])[i.val]'(i.isLt)).toNat<128:=by decide+kernel
theorem iter_below(w:World)(s:ByteArray)(p:Nat):Below w.heap.size w (w.iter s p):=by
 unfold World.iter;exact al _ _
theorem indexRune_err(w:World):Calls Tryz.prog 173 #[.string (tx [32,9,10,13]),.int .i32 65533] w fun e w'=>e= .returned (.int .i64 (-1))/\Below w.heap.size w w':=by
 obtain⟨s,hs⟩: ∃s,tx [32,9,10,13]=s:=⟨_,rfl⟩;have hsz:s.size=4:=by rw[<-hs];rfl
 have HA:=hid (show ∀i (h:i<s.size),(s[i]'h).toNat<128 from by
  subst hs;exact fun i h=>blk_byte ⟨i,by rw[hsz]at h;exact h⟩)
 rw[hs];clear hs;go_enter Tryz.func173,Tryz.ntmps173;go_wp2_with fail
 go_loopg [5,6] 4 (fun g _ _ wx=> ∃i:Nat,i+g=4/\wx=w.iter s i)
 case atStart=>exact⟨0,by omega,rfl⟩
 case round=>
  obtain⟨i,hig,rfl⟩:=hrel;cases gk with
  | zero=>
    obtain rfl:i=4:=by omega
    have hnx:=fun ty=>run_next_end (P:=Tryz.prog) w s 4 ty (by omega)
    go_wp2_with fail;go_ret;exact⟨rfl,iter_below w s 4⟩
  | succ g=>
    have hi:i<s.size:=by omega
    obtain⟨x,hx⟩: ∃x:UInt8,s[i]'hi=x:=⟨_,rfl⟩;have hx128:x.toNat<128:=by rw[<-hx];exact HA.out i hi
    have hnx:=fun ty=>run_next_ascii (P:=Tryz.prog) w s i ty hi (by rw[hx];exact hx128)
    rw[hx]at hnx;have z:((x.toNat:Int)==65533)=false:=by simp;omega
    clear hx;go_wp2_with fail
    go_roundg g
    case measure=>omega
    case rel=>exact⟨i+1,by omega,rfl⟩
theorem valid_is{r:Nat}{b:Bool}(h:b=decide (((0:Int)<=(r:Int)/\(r:Int)<55296)\/(57343<(r:Int)/\(r:Int)<=1114111))):Utf8.valid (r:Int)=b:=by rw[validRune_eq,h];rfl
theorem validRune_w(r:Nat)(w:World):Calls Tryz.prog 246 #[.int .i32 r] w fun e w'=>e= .returned (.bool (Utf8.valid r))/\w=w':=by
 have hp:r<55296\/(55296<=r/\r<=57343)\/(57343<r/\r<=1114111)\/1114111<r:=by omega
 rcases hp with h|⟨h,h'⟩|⟨h,h'⟩|h
 ·rw[valid_is (b:=true) (by simp;omega)]
  have z1:decide ((0:Int)<=(r:Int))=true:=by simp
  have z2:decide ((r:Int)<55296)=true:=by simp;omega
  clear h;go_enter Tryz.func246,Tryz.ntmps246;go_wp2_with fail;go_ret;exact⟨rfl,rfl⟩
 ·rw[valid_is (b:=false) (by simp;omega)]
  have z1:decide ((0:Int)<=(r:Int))=true:=by simp
  have z2:decide ((r:Int)<55296)=false:=by simp;omega
  have z3:decide ((57343:Int)<(r:Int))=false:=by simp;omega
  clear h h';go_enter Tryz.func246,Tryz.ntmps246;go_wp2_with fail;go_ret;exact⟨rfl,rfl⟩
 ·rw[valid_is (b:=true) (by simp;omega)]
  have z1:decide ((0:Int)<=(r:Int))=true:=by simp
  have z2:decide ((r:Int)<55296)=false:=by simp;omega
  have z3:decide ((57343:Int)<(r:Int))=true:=by simp;omega
  have z4:decide ((r:Int)<=1114111)=true:=by simp;omega
  clear h h';go_enter Tryz.func246,Tryz.ntmps246;go_wp2_with fail;go_ret;exact⟨rfl,rfl⟩
 ·rw[valid_is (b:=false) (by simp;omega)]
  have z1:decide ((0:Int)<=(r:Int))=true:=by simp
  have z2:decide ((r:Int)<55296)=false:=by simp;omega
  have z3:decide ((57343:Int)<(r:Int))=true:=by simp;omega
  have z4:decide ((r:Int)<=1114111)=false:=by simp;omega
  clear h;go_enter Tryz.func246,Tryz.ntmps246;go_wp2_with fail;go_ret;exact⟨rfl,rfl⟩
theorem indexRune_bad(r:Nat)(h:128<=r)(hne:r≠65533)(hv:Utf8.valid r=false)(w:World):Calls Tryz.prog 173 #[.string (tx [32,9,10,13]),.int .i32 r] w fun e w'=>e= .returned (.int .i64 (-1))/\Below w.heap.size w w':=by
 have z1:decide ((r:Int)<128)=false:=by simp;omega
 have z2:((r:Int)==65533)=false:=by simp;omega
 have HV:=hid hv;clear hv h hne;go_enter Tryz.func173,Tryz.ntmps173
 go_wp2_with (go_at_call 246;refine(validRune_w r _).mono ?_;rintro e w' ⟨rfl,rfl⟩;rw[HV.out])
 go_wp2_with fail;go_ret;exact⟨rfl,Below.refl _ _⟩
theorem indexByte_w(l:Tx)(x:UInt8)(w:World):Calls Tryz.prog 78 #[.string (tx l),.int .u8 x.toNat] w fun e w'=>e= .returned (.int .i64 (Lib.indexByte l x))/\w=w':=by
 refine(Any.strings_IndexByte Tryz.l137 (tx l) x.toNat w).mono fun e w' hh=>⟨?_,hh.2.symm⟩
 have:=hh.1;rw[tx_data]at this;rw[this];simp
theorem indexByte_none(l:Tx)(x:UInt8)(h:x∉l)(w:World):Calls Tryz.prog 78 #[.string (tx l),.int .u8 x.toNat] w fun e w'=>e= .returned (.int .i64 (-1))/\w=w':=by
 have:=indexByte_w l x w
 rwa[indexByte_miss x l h]at this
theorem indexRune_at(r:Nat)(k:Nat)(hk:k<4)(h:128<=r)(hne:r≠65533)(hv:Utf8.valid r=true)(l:Tx)(x:UInt8)(hl:Utf8.encode (r:Int)=tx l)(hll:l.length=k+1)(hx:l[k]? =some x)(hx2:128<=x.toNat)(w:World):Calls Tryz.prog 173 #[.string (tx [32,9,10,13]),.int .i32 r] w fun e w'=>e= .returned (.int .i64 (-1))/\Below w.heap.size w w':=by
 have z1:decide ((r:Int)<128)=false:=by simp;omega
 have z2:((r:Int)==65533)=false:=by simp;omega
 have HV:=hid hv;have hsl:(tx l).size=k+1:=by rw[tx_size,hll]
 have ix:=run_ix l k x hx;obtain⟨y,hy⟩: ∃y,([32,9,10,13]:Tx)[k]? =some y:=⟨_,List.getElem?_eq_getElem (by simpa using hk)⟩;have s1:=run_ix [32,9,10,13] k y hy;have sf:=run_strfrom [32,9,10,13] (k+1) (by simp;omega);rw[show((k+1:Nat):Int)=(k:Int)+1 by omega]at sf;have hlow: ∀b∈([32,9,10,13]:Tx),b.toNat<128:=by decide
 have zz:((y.toNat:Int) != (x.toNat:Int))=true:=by have:=hlow y (List.mem_of_getElem? hy);simp;omega
 have IB:=hid (fun w=>indexByte_none (([32,9,10,13]:Tx).drop (k+1)) x (fun hm=>by have:=hlow x (List.mem_of_mem_drop hm);omega) w);generalize ([32,9,10,13]:Tx).drop (k+1)=rest at*;obtain⟨s,hs⟩: ∃s,tx [32,9,10,13]=s:=⟨_,rfl⟩;have h4:s.size=4:=by rw[<-hs];rfl
 rw[hs]at s1 sf⊢
 have sf2: ∀w,(Instr.sliceAt 9 (.string s) (some (.int .i64 (IntKind.i64.wrap ((k:Int)+1)))) none none).run Tryz.prog w= .ok (.string (tx rest)) w:=by
  rw[wrap_small _ (by omega) (by omega)];exact sf
 have zk:decide ((k:Int)<4)=true:=by simp;omega
 clear hv h hne hx hll hx2 hlow hy hs;go_enter Tryz.func173,Tryz.ntmps173
 go_wp2_with (go_at_call 246;refine(validRune_w r _).mono ?_;rintro e w' ⟨rfl,rfl⟩;rw[HV.out])
 refine wp_scope_straight ?_;go_wp2_with fail
 go_loop [9] (fun i=>i= .int .i64 k) (fun i=>0)
 case atStart=>rfl
 case round=>
  subst hrel;go_wp2_with fail;refine wp_scope_straight ?_;go_wp2_with fail
  go_big_region
  all_goals go_wp2_with fail
  all_goals go_region_with (go_at_call 78;refine(IB.out _).mono ?_;rintro e w' ⟨rfl,rfl⟩)
  all_goals go_wp2_with fail
  all_goals simp+zetaDelta only[Exit.noGoto,Exit.inBlock,Exit.then]
  all_goals go_ret
  all_goals exact⟨rfl,blN⟩
theorem indexRune_high(r:Nat)(h:128<=r)(w:World):Calls Tryz.prog 173 #[.string (tx [32,9,10,13]),.int .i32 r] w fun e w'=>e= .returned (.int .i64 (-1))/\Below w.heap.size w w':=by
 by_cases hne:r=65533
 ·subst hne;exact indexRune_err w
 ·cases hv:Utf8.valid (r:Int)with
  |false=>exact indexRune_bad r h hne hv w
  | true=>
    obtain⟨f1,f2,f3⟩:=encode_facts (r:Int) hv (by omega);obtain⟨l,hl⟩:=tx_of (Utf8.encode (r:Int));have hsz:(Utf8.encode (r:Int)).size=l.length:=by rw[hl,tx_size]
    have hlt:l.length-1<l.length:=by omega
    refine indexRune_at r (l.length-1) (by omega) h hne hv l l[l.length-1] hl (by omega) (List.getElem?_eq_getElem hlt) ?_ w;have:=f3 (by omega);simp only[hl,tx_size]at this;exact this
theorem containsRune_bls(r:Nat)(h:r<=1114111)(w:World):Calls Tryz.prog 95 #[.string (tx [32,9,10,13]),.int .i32 r] w fun e w'=>e= .returned (.bool (runeB r))/\Below w.heap.size w w':=by
 by_cases h1:r<128
 ·refine(Any.strings_ContainsRune_ascii Tryz.l151 (tx [32,9,10,13]) (r:Int) w (by omega) (by omega)).mono fun e w' hh=>?_
  obtain⟨rfl,rfl⟩:=hh;rw[tx_data,runeB_low r h1];exact⟨rfl,Below.refl _ _⟩
 ·rw[runeB_high r (by omega)]
  have IR:=hid (fun w=>indexRune_high r (by omega) w);clear h h1;go_enter Tryz.func95,Tryz.ntmps95;go_wp2_with fail;refine(IR.out _).mono ?_;rintro e w1 ⟨rfl,E⟩;go_wp2_with fail;go_ret;exact⟨rfl,E⟩
theorem readWords1(r:Nat)(h:r<=1114111)(w:World):Calls Tryz.prog 148 #[.int .i32 r] w fun e w'=>e= .returned (.bool (runeB r))/\Below w.heap.size w w':=by
 have C:=hid (fun w=>containsRune_bls r h w);generalize runeB r=b at*;clear h;go_enter Tryz.func148,Tryz.ntmps148;go_wp2_with fail;refine(C.out _).mono ?_;rintro e w1 ⟨rfl,E⟩;go_wp2_with fail;go_ret;exact⟨rfl,E⟩
theorem fld_le': ∀(l u:Tx),(fldA u l).length<=l.length+1
 |[],u=>by unfold fldA flushX;split<;>simp
 | c::r,u=>by
   cases hb:blankC c with
   | true=>
     have:=fld_le' r [];rw[fA_blank _ _ hb,List.length_append];have:(flushX u).length<=1:=by unfold flushX;split<;>simp
     simp;omega
   |false=>have:=fld_le' r (u++[c]);rw[fA_in _ _ hb];simp;omega
theorem fld_le(l:Tx):(fldA [] l).length<=l.length+1:=fld_le' l []
theorem index_one(c:UInt8): ∀l:Tx,(c∉l->Lib.index l [c]= -1)/\(c∈l->Lib.index l [c]=(l.takeWhile (· != c)).length)
 |[]=>⟨fun _=>by simp[Lib.index],fun h=>by cases h⟩
 | b::r=>by
   obtain⟨h1,h2⟩:=index_one c r
   by_cases hb:b=c
   ·subst hb
    refine⟨fun h=>absurd (by simp) h,fun _=>?_⟩;simp[Lib.index,List.isPrefixOf]
   ·rw[index_cons_ne r hb]
    refine⟨fun h=>?_,fun h=>?_⟩
    ·rw[h1 (fun hm=>h (by simp[hm]))];rfl
    ·have hm:c∈r:=by
      rcases List.mem_cons.1 h with e|e
      ·exact absurd e.symm hb
      ·exact e
     have e:=h2 hm;have t:(b::r).takeWhile (· != c)=b::r.takeWhile (· != c):=by rw[List.takeWhile_cons,if_pos (by simpa using hb)]
     rw[t,e,if_neg (by simp only[beq_iff_eq];omega),List.length_cons];omega
theorem drop_tw(c:UInt8): ∀l:Tx,l.drop (l.takeWhile (· != c)).length=l.dropWhile (· != c)
 |[]=>rfl
 | b::r=>by
   rw[List.takeWhile_cons,List.dropWhile_cons];split
   ·rw[List.length_cons,List.drop_succ_cons];exact drop_tw c r
   ·rfl
theorem take_tw(c:UInt8): ∀l:Tx,l.take (l.takeWhile (· != c)).length=l.takeWhile (· != c)
 |[]=>rfl
 | b::r=>by
   rw[List.takeWhile_cons];split
   ·rw[List.length_cons,List.take_succ_cons,take_tw c r]
   ·rfl
theorem cut_one(c:UInt8)(l:Tx):Lib.cut l [c]=if c∈l then(l.takeWhile (· != c),(l.dropWhile (· != c)).drop 1,true)else(l,[],false):=by
 obtain⟨h1,h2⟩:=index_one c l;unfold Lib.cut
 by_cases h:c∈l
 ·rw[if_pos h,h2 h,if_pos (by omega)]
  simp only[Int.toNat_natCast,take_tw,List.length_cons,List.length_nil];rw[<-List.drop_drop,drop_tw]
 ·rw[if_neg h,h1 h,if_neg (by omega)]
theorem index_w(l:Tx)(c:UInt8)(w:World):Calls Tryz.prog 196 #[.string (tx l),.string (tx [c])] w fun e w'=>e= .returned (.int .i64 (Lib.indexByte l c))/\w=w':=
 (Any.stringslite_Index_one { Tryz.l145 with } (tx l) c w).mono fun e w' hh=>⟨by rw[hh.1,tx_data],hh.2.symm⟩
abbrev RetCu(l:Tx)(c:UInt8)(w:World):Ending->World->Prop:=Ret w (.tuple #[.string (tx (Lib.cut l [c]).1),.string (tx (Lib.cut l [c]).2.1),.bool (Lib.cut l [c]).2.2])
theorem cut_l(l:Tx)(c:UInt8)(hl:l.length<=9223372036854775807)(w:World):Calls Tryz.prog 111 #[.string (tx l),.string (tx [c])] w (RetCu l c w):=by
 have IX:=hid (fun w=>index_w l c w);have hc:=cut_one c l;have h1:=tx_size [c];unfold RetCu;rw[hc]
 by_cases h:c∈l
 ·obtain⟨e,hlt⟩:=indexByte_hit c l h
  rw[e]at IX;rw[if_pos h];obtain⟨k,hk⟩: ∃k,(l.takeWhile (· != c)).length=k:=⟨_,rfl⟩;rw[hk]at IX hlt;have s1:=run_strto l k (by omega);have s2:=run_strfrom l (k+1) (by omega);rw[show((k+1:Nat):Int)=(k:Int)+1 by omega]at s2;have hw:IntKind.i64.wrap ((k:Int)+1)=(k:Int)+1:=wrap_small _ (by omega) (by omega);have HA:=hid (show l.take k=l.takeWhile (· != c) by rw[<-hk];exact take_tw c l);have HB:=hid (show l.drop (k+1)=(l.dropWhile (· != c)).drop 1 by rw[<-List.drop_drop,<-hk,drop_tw]);have h1:(tx [c]).size=1:=h1;have hz:decide ((0:Int)<=(k:Int))=true:=by simp
  clear hc h e hk hl;go_enter Tryz.func111,Tryz.ntmps111
  go_wp2_with (go_at_call 196;refine(IX.out _).mono ?_;rintro e w' ⟨rfl,rfl⟩)
  go_big_region
  go_wp2_with fail
  go_ret3
  exact⟨by rw[HA.out,HB.out];rfl,blN⟩
 ·rw[indexByte_miss c l h]at IX
  rw[if_neg h];clear hc h hl;go_enter Tryz.func111,Tryz.ntmps111
  go_wp2_with (go_at_call 196;refine(IX.out _).mono ?_;rintro e w' ⟨rfl,rfl⟩)
  go_ret3
  exact⟨rfl,blN⟩
theorem cut_w(l:Tx)(c:UInt8)(hl:l.length<=9223372036854775807)(w:World):Calls Tryz.prog 48 #[.string (tx l),.string (tx [c])] w (Ret w (.tuple #[.string (tx (Lib.cut l [c]).1),.string (tx (Lib.cut l [c]).2.1),.bool (Lib.cut l [c]).2.2])):=by
 have C:=hid (fun w=>cut_l l c hl w);unfold RetCu at C;generalize tx (Lib.cut l [c]).1=a at*;generalize tx (Lib.cut l [c]).2.1=b at*;generalize (Lib.cut l [c]).2.2=k at*;go_enter Tryz.func48,Tryz.ntmps48;go_wp2_with fail;refine(C.out _).mono ?_;rintro e w' ⟨rfl,E⟩;go_wp2_with fail
 go_ret3
 exact⟨rfl,E⟩
theorem RetP.loc{w w':World}{e:Ending}{r:Option Ins}{i:Ins}(hr:r=some i)(h:e= .returned (.tuple #[vI i,.int .i64 0]))(hb:Below w.heap.size w w'):RetP r w e w':=by
 subst hr h;exact⟨rfl,hb⟩
theorem hasMov{t:Tx}:Lib.hasPrefix t [77,79,86]=decide (t.take 3=[77,79,86]):=by
 unfold Lib.hasPrefix;rw[Bool.eq_iff_iff,decide_eq_true_eq,List.isPrefixOf_iff_prefix,List.prefix_iff_eq_take];exact eq_comm
theorem pX_mfence{s:Tx}(hl:s.length<=262144)(h:trimT s=[77,70,69,78,67,69]):parseX s=some mfenceX:=by unfold parseX;rw[if_neg (by omega),if_pos h]
theorem pX_nomov{s t:Tx}(ht:trimT s=t)(hl:s.length<=262144)(h:t≠[77,70,69,78,67,69])(h2: ¬(t.take 3=[77,79,86]/\(t.drop 3).head?.any blankC=true)):parseX s=none:=by subst ht;unfold parseX;rw[if_neg (by omega),if_neg h,if_pos h2]
theorem pX_nocut{s t u:Tx}(ht:trimT s=t)(hu:t.drop 3=u)(h:(44:UInt8)∉u)(hl:s.length<=262144)(h1:t≠[77,70,69,78,67,69]):parseX s=none:=by
 subst ht;subst hu;unfold parseX;rw[if_neg (by omega),if_neg h1];split
 ·rfl
 ·first|rfl|rw[if_neg h]
theorem pX_cut{s t u:Tx}(ht:trimT s=t)(hu:t.drop 3=u)(h:(44:UInt8)∈u)(hl:s.length<=262144)(h1:t≠[77,70,69,78,67,69])(h2:t.take 3=[77,79,86])(h3:u.head?.any blankC=true):parseX s=movedX (trimT (u.takeWhile (· != 44))) (trimT ((u.dropWhile (· != 44)).drop 1)):=by
 subst ht;subst hu;unfold parseX;rw[if_neg (by omega),if_neg h1,if_neg (fun hh=>hh ⟨h2,h3⟩),if_pos h]
theorem intelParse_long(s:Tx)(hl:262144<s.length)(w:World):Calls Tryz.prog 43 #[.string (tx s)] w (RetP (parseX s) w):=by
 have HP:=hid (show parseX s=none by unfold parseX;rw[if_pos hl]);obtain⟨n,hn⟩: ∃n,(tx s).size=n:=⟨_,rfl⟩;have z:decide (262144<(n:Int))=true:=by rw[tx_size]at hn;simp;omega
 generalize parseX s=r at*;clear hl;go_enter Tryz.func43,Tryz.ntmps43;go_wp2_with fail;exact bodyPost_ret (by simp[results,Tryz.results43,go_sem]) rfl (RetP.no HP.out rfl blA)
theorem intelParse_mfence(s:Tx)(hl:s.length<=262144)(h:trimT s=[77,70,69,78,67,69])(w:World):Calls Tryz.prog 43 #[.string (tx s)] w (RetP (parseX s) w):=by
 have HP:=hid (pX_mfence hl h);obtain⟨n,hn⟩: ∃n,(tx s).size=n:=⟨_,rfl⟩;have z:decide (262144<(n:Int))=false:=by rw[tx_size]at hn;simp;omega
 have TR:=hid (fun w=>trim_any s (by omega) w);rw[h]at TR;generalize parseX s=r at*;have z2:((tx [77,70,69,78,67,69]).toList==[77,70,69,78,67,69])=true:=by rw[tx_toList];rfl
 clear hl h;go_enter Tryz.func43,Tryz.ntmps43;go_wp2_with fail;refine(TR.out _).mono ?_;rintro e w1 ⟨rfl,E⟩;obtain⟨⟨d0,d1,d2,d3,d4,d5,d6,d7⟩,hf,hlt,B⟩:=fresh8 E;clear E;go_wp2_with fail;exact bodyPost_ret (by simp[results,Tryz.results43,go_sem,d0,d1,d2,d3,d4,d5,d6,d7,mfenceX,tx_nil]) rfl (RetP.loc HP.out rfl blA)
theorem intelParse_no(s t:Tx)(hl:s.length<=262144)(ht:trimT s=t)(h1:t≠[77,70,69,78,67,69])(h2: ¬(t.take 3=[77,79,86]/\(t.drop 3).head?.any blankC=true))(w:World):Calls Tryz.prog 43 #[.string (tx s)] w (RetP (parseX s) w):=by
 have HP:=hid (pX_nomov ht hl h1 h2);obtain⟨n,hn⟩: ∃n,(tx s).size=n:=⟨_,rfl⟩;have z:decide (262144<(n:Int))=false:=by rw[tx_size]at hn;simp;omega
 have TR:=hid (fun w=>trim_any s (by omega) w);rw[ht]at TR;have htl:=trimT_length s;rw[ht]at htl;generalize parseX s=r at*;have z2:((tx t).toList==[77,70,69,78,67,69])=false:=tx_ne _ _ h1;have PR:=hid (fun w=>run_prefix t [77,79,86] w);rw[hasMov]at PR;obtain⟨m,hm⟩: ∃m,(tx t).size=m:=⟨_,rfl⟩;have hml:m=t.length:=by rw[<-hm,tx_size]
 by_cases h3:t.take 3=[77,79,86]
 ·rw[decide_eq_true h3]at PR
  by_cases h4:t.length<4
  ·have z4:decide ((m:Int)<4)=true:=by simp;omega
   clear hl ht h1 h2 htl hml h3 h4;go_enter Tryz.func43,Tryz.ntmps43;go_wp2_with fail;refine(TR.out _).mono ?_;rintro e w1 ⟨rfl,E⟩;go_wp2_with fail;refine(PR.out _).mono ?_;rintro e w2 ⟨rfl,E2⟩;have E:=ext_trans E E2;obtain⟨⟨d0,d1,d2,d3,d4,d5,d6,d7⟩,hf,hlt,B⟩:=fresh8 E;clear E E2;go_wp2_with fail;exact bodyPost_ret (by simp[results,Tryz.results43,go_sem,d0,d1,d2,d3,d4,d5,d6,d7]) rfl (RetP.no HP.out rfl blA)
  ·have z4:decide ((m:Int)<4)=false:=by simp;omega
   obtain⟨b,hb⟩: ∃b,t[3]? =some b:=⟨_,List.getElem?_eq_getElem (by omega)⟩
   have hbb:blankC b=false:=by
    cases hbb:blankC b with
    |false=>rfl
    | true=>
      refine absurd ⟨h3,?_⟩ h2;rw[List.head?_drop,hb];exact hbb
   have ix: ∀w,(Instr.index 9 (.string (tx t)) (.int .i64 3)).run Tryz.prog w= .ok (.int .u8 b.toNat) w:=run_ix t 3 b hb;have CR:=hid (fun w=>containsRune_bls b.toNat (by have:=b.toNat_lt;omega) w);rw[runeB_byte,hbb]at CR;have hb8:=b.toNat_lt;clear hl ht h1 h2 htl hml h3 h4 hb hbb;go_enter Tryz.func43,Tryz.ntmps43;go_wp2_with fail;refine(TR.out _).mono ?_;rintro e w1 ⟨rfl,E⟩;go_wp2_with fail;refine(PR.out _).mono ?_;rintro e w2 ⟨rfl,E2⟩;have E:=ext_trans E E2;go_wp2_with fail;refine(CR.out _).mono ?_;rintro e w3 ⟨rfl,E3⟩;have E:=ext_trans E E3;obtain⟨⟨d0,d1,d2,d3,d4,d5,d6,d7⟩,hf,hlt,B⟩:=fresh8 E;clear E E2 E3;go_wp2_with fail;exact bodyPost_ret (by simp[results,Tryz.results43,go_sem,d0,d1,d2,d3,d4,d5,d6,d7]) rfl (RetP.no HP.out rfl blA)
 ·rw[decide_eq_false h3]at PR
  clear hl ht h1 h2 htl hml h3;go_enter Tryz.func43,Tryz.ntmps43;go_wp2_with fail;refine(TR.out _).mono ?_;rintro e w1 ⟨rfl,E⟩;go_wp2_with fail;refine(PR.out _).mono ?_;rintro e w2 ⟨rfl,E2⟩;have E:=ext_trans E E2;obtain⟨⟨d0,d1,d2,d3,d4,d5,d6,d7⟩,hf,hlt,B⟩:=fresh8 E;clear E E2;go_wp2_with fail;exact bodyPost_ret (by simp[results,Tryz.results43,go_sem,d0,d1,d2,d3,d4,d5,d6,d7]) rfl (RetP.no HP.out rfl blA)
theorem intelParse_mov(s t u:Tx)(hl:s.length<=262144)(ht:trimT s=t)(hu:t.drop 3=u)(h1:t≠[77,70,69,78,67,69])(h3:t.take 3=[77,79,86])(b:UInt8)(r0:Tx)(hub:u=b::r0)(hbb:blankC b=true)(w:World)(g:Gl w):Calls Tryz.prog 43 #[.string (tx s)] w (RetP (parseX s) w):=by
 have g0:=g.below (al w zeroI);obtain⟨n,hn⟩: ∃n,(tx s).size=n:=⟨_,rfl⟩;have z:decide (262144<(n:Int))=false:=by rw[tx_size]at hn;simp;omega
 have TR:=hid (fun w=>trim_any s (by omega) w);rw[ht]at TR;have htl:=trimT_length s;rw[ht]at htl
 have htu:t.length=u.length+3:=by
  have:=congrArg List.length hu;have h4:=congrArg List.length h3;rw[hub]at this⊢;simp only[List.length_drop,List.length_take,List.length_cons,List.length_nil]at this h4⊢;omega
 have z2:((tx t).toList==[77,70,69,78,67,69])=false:=tx_ne _ _ h1;have PR:=hid (fun w=>run_prefix t [77,79,86] w);rw[hasMov,decide_eq_true h3]at PR;obtain⟨m,hm⟩: ∃m,(tx t).size=m:=⟨_,rfl⟩;have hml:m=t.length:=by rw[<-hm,tx_size]
 have z4:decide ((m:Int)<4)=false:=by rw[hml,htu,hub];simp;omega
 have hb:t[3]? =some b:=by rw[<-List.head?_drop,hu,hub];rfl
 have ix: ∀w,(Instr.index 9 (.string (tx t)) (.int .i64 3)).run Tryz.prog w= .ok (.int .u8 b.toNat) w:=run_ix t 3 b hb;have CR:=hid (fun w=>containsRune_bls b.toNat (by have:=b.toNat_lt;omega) w);rw[runeB_byte,hbb]at CR;have hb8:=b.toNat_lt
 have sf: ∀w,(Instr.sliceAt 9 (.string (tx t)) (some (.int .i64 3)) none none).run Tryz.prog w= .ok (.string (tx u)) w:=fun w=>by
  have:=run_strfrom t 3 (by omega) w;rw[hu]at this;exact this
 have CU:=hid (fun w (g:Gl w)=>cut_w u 44 (by omega) w);have hul:u.length<=262144:=by omega
 rw[cut_one]at CU
 by_cases h44:(44:UInt8)∈u
 ·rw[if_pos h44]at CU
  have HP:=hid (pX_cut ht hu h44 hl h1 h3 (by rw[hub];exact hbb));obtain⟨x,hx⟩: ∃x,u.takeWhile (· != 44)=x:=⟨_,rfl⟩;obtain⟨y,hy⟩: ∃y,(u.dropWhile (· != 44)).drop 1=y:=⟨_,rfl⟩;have hxl:x.length<=262144:=by rw[<-hx];have:=takeWhile_le (· != 44) u;omega
  have hyl:y.length<=262144:=by rw[<-hy];have:=(List.dropWhile_suffix (fun x=>x != 44) (l:=u)).length_le;simp;omega
  simp only at CU;rw[hx,hy]at CU HP;have TX:=hid (fun w=>trim_any x (by omega) w);have TY:=hid (fun w=>trim_any y (by omega) w);have MV:=hid (fun w g=>intelMoved (trimT x) (trimT y) (by have:=trimT_length x;omega) (by have:=trimT_length y;omega) w g);have HC:=hid (fun i=>movedX_check (a:=trimT x) (b:=trimT y) (i:=i));have HPS:=hid (show ∀i,movedX (trimT x) (trimT y)=some i->parseX s=some i from fun i h=>by rw[HP.out,h]);have HPN:=hid (show movedX (trimT x) (trimT y)=none->parseX s=none from fun h=>by rw[HP.out,h]);generalize movedX (trimT x) (trimT y)=mv at*;generalize parseX s=r at*;generalize trimT x=tx0 at*;generalize trimT y=ty0 at*;clear hl ht h1 htl hml h3 hb hbb hx hy hxl hyl h44 HP hub hu htu hul g;go_enter Tryz.func43,Tryz.ntmps43;go_wp2_with fail;refine(TR.out _).mono ?_;rintro e w1 ⟨rfl,E⟩;go_wp2_with fail;refine(PR.out _).mono ?_;rintro e w2 ⟨rfl,E2⟩;have E:=ext_trans E E2;go_wp2_with fail;refine(CR.out _).mono ?_;rintro e w3 ⟨rfl,E3⟩;have E:=ext_trans E E3;have g1:=g0.below E;go_wp2_with fail;refine(CU.out _ g1).mono ?_;rintro e w4 ⟨rfl,E4⟩;have E:=ext_trans E E4;go_wp2_with fail;refine(TX.out _).mono ?_;rintro e w5 ⟨rfl,E5⟩;have E:=ext_trans E E5;go_wp2_with fail;refine(TY.out _).mono ?_;rintro e w6 ⟨rfl,E6⟩;have E:=ext_trans E E6;have g2:=g0.below E;go_wp2_with fail;refine(MV.out _ g2).mono ?_;rintro e w7 ⟨op,d,a,imm,loc,ok,rfl,hk,hll,E7⟩;have E:=ext_trans E E7;have HK:=hid hk;have HL:=hid hll;clear g1 g2 E2 E3 E4 E5 E6 E7 hk hll;cases ok with
  | false=>
    obtain⟨⟨d0,d1,d2,d3,d4,d5,d6,d7⟩,hf,hlt,B⟩:=fresh8 E;have HN:=hid (HPN.out HK.out.no);clear E;go_wp2_with fail;exact bodyPost_ret (by simp[results,Tryz.results43,go_sem,d0,d1,d2,d3,d4,d5,d6,d7,hlt]) rfl (RetP.no HN.out rfl blA)
  | true=>
    have HN:=hid (HPS.out _ HK.out.yes);have CK:=hid (fun w=>xCheck ⟨op,d,a,0,imm,loc,[],0⟩ (by have:=HL.out;simp;omega) w);rw[errX_yes (HC.out _ HK.out.yes)]at CK;go_wp2_with fail;refine(CK.out _).mono ?_;rintro e w8 ⟨rfl,E8⟩;have bl:=(BxL.new w7 #[.int .i64 op,.int .i64 d,.int .i64 a,.int .i64 0,.int .i64 imm,.string (tx loc),.string ⟨#[]⟩,.int .i64 0] 50).below E8;have q0:=bl.get 0 _ rfl;have q1:=bl.get 1 _ rfl;have q2:=bl.get 2 _ rfl;have q3:=bl.get 3 _ rfl;have q4:=bl.get 4 _ rfl;have q5:=bl.get 5 _ rfl;have q6:=bl.get 6 _ rfl;have q7:=bl.get 7 _ rfl;have h7:=E.size;have E:=ext_trans (bel_alloc E _) E8;obtain⟨⟨d0,d1,d2,d3,d4,d5,d6,d7⟩,hf,hlt,B⟩:=fresh8 E;have hne:w.heap.size≠w7.heap.size:=by simp at h7;omega
    have hne2:=hne.symm;clear E E8 bl h7;go_wp2_with fail;exact bodyPost_ret (by simp[results,Tryz.results43,go_sem,d0,d1,d2,d3,d4,d5,d6,d7,tx_nil]) rfl (RetP.loc HN.out rfl blA)
 ·rw[if_neg h44]at CU
  have HP:=hid (pX_nocut ht hu h44 hl h1);generalize parseX s=r at*;clear hl ht h1 htl hml h3 hb hbb h44 hub hu htu hul g;go_enter Tryz.func43,Tryz.ntmps43;go_wp2_with fail;refine(TR.out _).mono ?_;rintro e w1 ⟨rfl,E⟩;go_wp2_with fail;refine(PR.out _).mono ?_;rintro e w2 ⟨rfl,E2⟩;have E:=ext_trans E E2;go_wp2_with fail;refine(CR.out _).mono ?_;rintro e w3 ⟨rfl,E3⟩;have E:=ext_trans E E3;have g1:=g0.below E;go_wp2_with fail;refine(CU.out _ g1).mono ?_;rintro e w4 ⟨rfl,E4⟩;have E:=ext_trans E E4;obtain⟨⟨d0,d1,d2,d3,d4,d5,d6,d7⟩,hf,hlt,B⟩:=fresh8 E;clear E E2 E3 E4 g1;go_wp2_with fail;exact bodyPost_ret (by simp[results,Tryz.results43,go_sem,d0,d1,d2,d3,d4,d5,d6,d7]) rfl (RetP.no HP.out rfl blA)
theorem intelParse(s:Tx)(w:World)(g:Gl w):Calls Tryz.prog 43 #[.string (tx s)] w (RetP (parseX s) w):=by
 by_cases hl:s.length<=262144
 ·by_cases h1:trimT s=[77,70,69,78,67,69]
  ·exact intelParse_mfence s hl h1 w
  ·by_cases h2:(trimT s).take 3=[77,79,86]/\((trimT s).drop 3).head?.any blankC=true
   ·obtain⟨h3,h4⟩:=h2
    cases hu:(trimT s).drop 3 with
    |nil=>rw[hu]at h4;cases h4
    |cons b r0=>rw[hu]at h4;exact intelParse_mov s _ _ hl rfl hu h1 h3 b r0 rfl h4 w g
   ·exact intelParse_no s _ hl rfl h1 h2 w
 ·exact intelParse_long s (by omega) w
theorem blank_has(c:UInt8):([32,9,10,13]:Tx).contains c=blankC c:=by
 have k:=u8_all (p:=fun c=>([32,9,10,13]:Tx).contains c==blankC c) (by decide+kernel) c;simpa using k
theorem trimLeft_any(l:Tx)(w:World):Calls Tryz.prog 154 #[.string (tx l),.string ⟨#[32,9,10,13]⟩] w (Ret w (.string (tx (sgnL l)))):=by
 refine(Any.strings_TrimLeft_laid Tryz.l161 (by kernel_rfl) (tx l) ⟨#[32,9,10,13]⟩ w (by decide) (ascii_of_all (by decide))).mono fun e w' hh=>⟨?_,hh.2⟩
 rw[hh.1,tx_data]
 have:Lib.trimLeftS l [32,9,10,13]=sgnL l:=by
  unfold Lib.trimLeftS sgnL
  congr 1;funext c;exact blank_has c
 show Ending.returned (.string ⟨(Lib.trimLeftS l [32,9,10,13]).toArray⟩)=_;rw[this];rfl
theorem trimRight_any(l:Tx)(hl:l.length<=9223372036854775807)(w:World):Calls Tryz.prog 155 #[.string (tx l),.string ⟨#[32,9,10,13]⟩] w (Ret w (.string (tx (rdr l)))):=by
 refine(Any.strings_TrimRight_laid Tryz.l162 (by kernel_rfl) (tx l) ⟨#[32,9,10,13]⟩ w (by rw[tx_size];exact hl) (by decide) (ascii_of_all (by decide))).mono fun e w' hh=>⟨?_,hh.2⟩
 rw[hh.1,tx_data]
 have:Lib.trimRightS l [32,9,10,13]=rdr l:=by
  unfold Lib.trimRightS rdr
  congr 2;funext c;exact blank_has c
 show Ending.returned (.string ⟨(Lib.trimRightS l [32,9,10,13]).toArray⟩)=_;rw[this];rfl
theorem trimSuffix_any(l:Tx)(c:UInt8)(hl:l.length<=9223372036854775807)(w:World):Calls Tryz.prog 41 #[.string (tx l),.string ⟨#[c]⟩] w fun e w'=>e= .returned (.string (tx (if l.getLast?=some c then l.dropLast else l)))/\w=w':=by
 refine(Any.strings_TrimSuffix Tryz.l102 (tx l) ⟨#[c]⟩ w (by rw[tx_size];exact hl)).mono fun e w' hh=>⟨?_,hh.2.symm⟩
 rw[hh.1,tx_data,show(⟨#[c]⟩:ByteArray).data.toList=[c]from rfl];unfold Lib.trimSuffix;rw[hasSuffix_one]
 by_cases h:l.getLast?=some c
 ·rw[if_pos (by rw[h];simp),if_pos h,List.dropLast_eq_take];rfl
 ·rw[if_neg (by simpa using h),if_neg h];rfl
theorem count_any(l:Tx)(c:UInt8)(w:World):Calls Tryz.prog 77 #[.string (tx l),.string ⟨#[c]⟩] w fun e w'=>e= .returned (.int .i64 (l.count c:Nat))/\w=w':=by
 refine(Any.strings_Count_one Tryz.l138 (tx l) c w).mono fun e w' hh=>⟨?_,hh.2.symm⟩
 rw[hh.1,tx_data];rfl
theorem split_own(l:Tx)(c:UInt8)(hl:l.length<=1000000)(w:World)(g:Gl w):Calls Tryz.prog 79 #[.string (tx l),.string ⟨#[c]⟩] w fun e w'=> ∃a,e= .returned (.slice a (splitC c l).length (splitC c l).length)/\Own w' w.heap.size 9 1 a (splitC c l).length (splitC c l).length ((splitC c l).map fun x=>Value.string (tx x))/\Txs w' a (splitC c l)/\Below w.heap.size w w':=by
 obtain⟨m,hm⟩:=g.maxLen;refine(Any.strings_Split { Tryz.m146 with } Tryz.m146.i9 (tx l) ⟨#[c]⟩ m w (by rw[tx_size];omega) hm (by show 1<=1;omega)).mono fun e w' hh=>?_
 obtain⟨he,rfl⟩:=hh;have hc:Lib.countB (tx l) ⟨#[c]⟩=Lib.count l [c]:=by unfold Lib.countB;rw[tx_data]
 have hd:=Lib.splitB_data ⟨#[c]⟩ 0 (Lib.count l [c]) (tx l);rw[tx_data,show(⟨#[c]⟩:ByteArray).data.toList=[c]from rfl,splitK_one]at hd
 have hlen:Lib.count l [c]+1=(splitC c l).length:=by
  rw[<-hd,List.length_map,Lib.splitB_all ⟨#[c]⟩ (by show 1<=1;omega) 0 _ _ hc]
 have hmap:(Lib.splitB ⟨#[c]⟩ 0 (Lib.count l [c]) (tx l)).map Value.string=(splitC c l).map fun x=>Value.string (tx x):=by
  rw[<-hd,List.map_map];refine List.map_congr_left fun x _=>?_
  simp[tx]
 rw[hc,hlen]at he;rw[hc,hmap];have hsm:=splitC_length_le c l;refine⟨some ⟨w.heap.size,0,none⟩,he,?_,⟨⟨fun _=>rfl,fun i hi=>?_⟩,by omega⟩,(Below.refl _ _).alloc (Nat.le_refl _) _⟩
 ·exact World.ownsRow_lit w (e:=9) ((splitC c l).map fun x=>Value.string (tx x)).toArray (splitC c l).length (Nat.le_refl w.heap.size) (size:=1) (by unfold maxLen;omega) (by simp)
 ·have hh:=heap_alloc_new w (.cells ((splitC c l).map fun x=>Value.string (tx x)).toArray (Tryz.m146_ren.t 9))
  simp only[World.cell?,bk_some,fo_some];rw[hh];simp
theorem readTrim(l:Tx)(hl:l.length<=9223372036854775807)(w:World):Calls Tryz.prog 50 #[.string (tx l)] w (Ret w (.string (tx (trimT l)))):=by
 have TR:=hid (trim_any l hl w);go_enter Tryz.func50,Tryz.ntmps50;go_wp2_with fail;refine TR.out.mono ?_;rintro e w1 ⟨rfl,E⟩;go_wp2_with fail;go_ret;exact⟨rfl,E⟩
theorem readLead(l:Tx)(hl:l.length<=9223372036854775807)(w:World):Calls Tryz.prog 80 #[.string (tx l)] w (Ret w (.int .i64 ((l.length-(sgnL l).length:Nat):Int))):=by
 have TR:=hid (trimLeft_any l w);have h1:(tx l).size=l.length:=tx_size l;have h2:(tx (sgnL l)).size=(sgnL l).length:=tx_size _;have h3:(sgnL l).length<=l.length:=(List.dropWhile_suffix _).length_le;go_enter Tryz.func80,Tryz.ntmps80;go_wp2_with fail;refine TR.out.mono ?_;rintro e w1 ⟨rfl,E⟩;go_wp2_with fail;go_ret;exact⟨ret_int (by omega),E⟩
theorem readKnown(arch:Int)(w:World):Calls Tryz.prog 42 #[.int .i64 arch] w fun e w'=>e= .returned (.bool (archB arch))/\w=w':=by
 obtain⟨b1,h1⟩: ∃b,(arch==1)=b:=⟨_,rfl⟩;obtain⟨b2,h2⟩: ∃b,(arch==2)=b:=⟨_,rfl⟩;have HB:=hid (show archB arch=(b1||b2) by rw[<-h1,<-h2];unfold archB;cases h:arch==1<;>cases h':arch==2<;>simp_all)
 go_enter Tryz.func42,Tryz.ntmps42;cases b1<;>
 ·go_wp2_with fail
  go_ret;exact⟨ret_bool (by rw[HB.out];rfl),rfl⟩
theorem readNamed:SF nameB 52:=fun l hl=>namesF l hl _ (by decide)
end Go.Proofs.YtkbbgjloifmmbaaGreatDoor
