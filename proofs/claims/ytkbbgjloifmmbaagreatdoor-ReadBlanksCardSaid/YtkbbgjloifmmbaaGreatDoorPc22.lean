/- What ReadBlanksP leans on, part 22. -/
import Derived.Test.YtkbbgjloifmmbaaGreatDoorPc17
import Derived.Test.YtkbbgjloifmmbaaGreatDoorPc19
set_option linter.unusedVariables false
set_option maxRecDepth 100000
set_option maxHeartbeats 6400000
open _root_.Go.Proofs.Tryz
open _root_.List renaming getElem?_eq_getElem->am9,takeWhile_append_dropWhile->aoj,drop_eq_getElem_cons->aoI,length_reverse->anN,getElem?_eq_some_iff->anx,drop_zero->ap0,drop_eq_nil_of_le->anj,getElem?_eq_none->anI,length_append->aoW
open _root_.Nat renaming le_refl->anb,zero_le->apL
open _root_.Go.Instr renaming indexAt->anm
open _root_.Go.Calls renaming quiet_of_same->an6
open _root_.Bool renaming false_eq_true->aoK
open _root_.Go.Lib renaming itoa->aoe
open _root_.Option.some renaming inj->an4
namespace Go.Proofs.YtkbbgjloifmmbaaGreatDoor
open Go.RowKit
variable{n v:Int}{V k:Nat}{s:Tx}{c x:UInt8}
theorem mP:UF aq 186:=fun c=>AU c _ (by decide)
theorem aaG{j:Nat}(h:(s.takeWhile aq).length=j):n9 s=(s[j+3]?).any aq:=by
 unfold n9
 have e:s.dropWhile aq=s.drop j:=by
  have:=aoj (p:=aq) (l:=s)
  conv=>rhs;rw[<-this]
  rw[<-h,List.drop_left]
 rw[e,List.drop_drop,List.head?_drop]
theorem ah2(s:Tx)(hl:s.length<=262144)(w:World):Calls prog 104 #[.string (tx s)] w fun e w'=>e= .returned (.bool (n9 s))/\w=w':=by
 obtain⟨j,h1,h2,h3,h4,h5⟩:=pK aq s _ 0 (anb _) (apL _);rw[ap0]at h5;have HA:=hid (aaG (s:=s) (j:=j) (by omega));obtain⟨n,hn⟩:=aj ((tx s).size);have HN:=hid (show n=s.length by rw[<-hn,aM]);have hnb:n<=262144:=by rw[HN.out];exact hl
 have hjn:j<=n:=by rw[HN.out];exact h2
 have HS:=hid h3;have HE:=hid h4;clear h1 h2 h3 h4 h5 hl;go_in;go_wp2_with fail
 go_loop [3] (fun x=> ∃k:Nat,k<=j/\x= .int .i64 k) (fun x=>j-(intOf x).toNat)
 ·exact⟨0,apL _,rfl⟩
 obtain⟨k,hkj,rfl⟩:=hrel
 by_cases hlt:k<j
 ·obtain⟨x,hx,gD⟩:=HS.out k (apL _) hlt
  have ix:=bB s k x hx;have zk:decide ((k:Int)<(n:Int))=true:=ah;have HB:=hid gD;clear hx gD
  go_wp2_with (go_at_call 186;refine av (mP x _) ?_;rw[HB.out])
  go_round
  case rel=>exact⟨k+1,by omega,by go_num⟩
  case measure=>simp[intOf];omega
 obtain rfl:k=j:=by omega
 by_cases hkn:k<n
 ·obtain⟨x,hx⟩: ∃x,s[k]? =some x:=⟨_,am9 (aI HN.out)⟩
  have ix:=bB s k x hx;have zk:decide ((k:Int)<(n:Int))=true:=ah;have HB:=hid (HE.out x hx);clear hx
  by_cases qn:k+3<n
  ·obtain⟨y,hy⟩: ∃y,s[k+3]? =some y:=⟨_,am9 (aI HN.out)⟩
   have iy:=bB s (k+3) y hy;rw[show((k+3:Nat):Int)=(k:Int)+3 by omega]at iy;have zk3:decide ((k:Int)+3<(n:Int))=true:=ah;have HY:=hid (show aq y=n9 s by rw[HA.out,hy];rfl);clear hy
   by_cases hxy:y=x
   ·subst hxy
    have HY:=hid (show false=n9 s by rw[<-HY.out,HB.out])
    go_wp2_with (go_at_call 186;refine av (mP y _) ?_;rw[HB.out])
    go_ret;exact⟨aQ HY.out,rfl⟩
   have CX:=hid (fun w=>mP x w)
   have CY:=hid (fun w=>mP y w);rw[HB.out]at CX;rw[HY.out]at CY;generalize (x.toNat:Int)=xi at*;generalize (y.toNat:Int)=yi at*
   go_wp2_with (first|(go_at_call 186;with_reducible refine av (CX.out _) ?_)|(go_at_call 186;with_reducible refine av (CY.out _) ?_))
   go_ret;exact⟨rfl,rfl⟩
  have HY:=hid (show false=n9 s by rw[HA.out,anI (aI HN.out)];rfl)
  have zk3:decide ((k:Int)+3<(n:Int))=false:=ah
  go_wp2_with (go_at_call 186;refine av (mP x _) ?_;rw[HB.out])
  go_ret;exact⟨aQ HY.out,rfl⟩
 have HY:=hid (show false=n9 s by rw[HA.out,anI (aI HN.out)];rfl)
 have zk:decide ((k:Int)<(n:Int))=false:=ah;have zk3:decide ((k:Int)+3<(n:Int))=false:=ah;go_wp2;go_ret;exact⟨aQ HY.out,rfl⟩
theorem OB(x:UInt8): ∀(l:Tx) (a:Nat),oJ a (l++[x])=if aD x then 10*oJ a l+(x.toNat-48)else oJ a l
 |[],a=>rfl
 |c::r,a=>OB x r _
def nw(s:Tx)(k V:Nat):Prop:=V=oJ 0 (s.take k)
theorem nw.small(h:nw s k V)(hk:k<=11):V<100000000000:=by
 have:=OG 11 (s.take k) 0 ah;unfold nw at h;omega
theorem nw.step(h:nw s k V)(hx:s[k]? =some x)(hd:aD x=true):nw s (k+1) (10*V+(x.toNat-48)):=by
 unfold nw at *; rw[tL hx,OB,if_pos hd,h]
theorem nw.skip(h:nw s k V)(hx:s[k]? =some x)(hd:aD x=false):nw s (k+1) V:=by
 unfold nw at *; rw[tL hx,OB,if_neg (by rw[hd];decide),h]
theorem alY(h:tQ s=v)(hn:bO v=true):bP (aU s) v (aoe v==s):=by
 unfold bP;rw[MO,h]
 by_cases hh:aoe v=s
 ·rw[if_pos ⟨hh,hn⟩,if_pos (by simpa using hh)]
 rw[if_neg (fun h=>hh h.1),if_neg (by simpa using hh)]
theorem alX(h:tQ s=v)(hn:bO v=false)(u:Int):bP (aU s) u false:=by
 unfold bP;rw[MO,h,if_neg (by rw[hn];rintro⟨-, h⟩;cases h)];rfl
theorem ML(h:s=[]\/11<s.length):aU s=none:=by
 cases hn:aU s with
 |none=>rfl
 | some v=>
   have h1:=agj hn;rcases h with rfl|h
   ·have:=Cg hn;cases this
   omega
theorem ah3(s:Tx)(hl:s.length<=9223372036854775807)(w:World)(g:Gl w):Calls prog 253 #[.string (tx s)] w (Ew (aU s) w):=by
 obtain⟨n,hn⟩:=aj ((tx s).size);have HN:=hid (show n=s.length by rw[<-hn,aM]);have hnb:n<=9223372036854775807:=by rw[HN.out];exact hl
 by_cases h0:n=0
 ·have HR:=hid (ML (s:=s) (.inl (List.eq_nil_of_length_eq_zero (by rw[<-HN.out];exact h0))))
  have z0:((n:Int)==0)=true:=ah;clear h0 g;go_in;go_wp2
  go_ret2
  exact⟨0,false,rfl,HR.out,oz⟩
 have z0:((n:Int)==0)=false:=ah
 by_cases h11:11<n
 ·have HR:=hid (ML (s:=s) (.inr (by rw[<-HN.out];exact h11)))
  have z1:decide ((11:Int)<(n:Int))=true:=ah;clear h0 g;go_in;go_wp2
  go_ret2
  exact⟨0,false,rfl,HR.out,oz⟩
 have z1:decide ((11:Int)<(n:Int))=false:=ah;obtain⟨c,hc⟩: ∃c,s[0]? =some c:=⟨_,am9 (aI HN.out)⟩;have hh:s.head?=some c:=by rw[<-hc];cases s<;>rfl
 have i0:=kJ s c hc;have h11:n<=11:=by omega
 have HG:=hid g;clear hc h0 g;obtain⟨b,hb⟩:=aj ((c.toNat:Int)==45)
 have HV:=hid (show ∀V,nw s n V->tQ s=if b=true then -(V:Int)else(V:Int)from fun V h=>by
  have e45:((c.toNat:Int)==45)=(c==45):=iW (x:=c) 45 (by decide);unfold nw at h;rw[HN.out,List.take_length]at h;unfold tQ;rw[hh,h,<-hb,e45]
  by_cases e:c=45
  ·rw[if_pos (by rw[e]),if_pos (by simpa using e)];omega
  rw[if_neg (fun h=>e (an4 h)),if_neg (by simpa using e)])
 clear hh;go_in;go_wp2_with fail
 go_loop [4,5] (fun v kk=> ∃k V:Nat,k<=n/\kk= .int .i64 k/\v= .int .i64 V/\Hid (nw s k V)) (fun _ kk=>n-(intOf kk).toNat)
 ·exact⟨0,0,by omega,rfl,rfl,rfl⟩
 obtain⟨k,V,hk,rfl,rfl,HA⟩:=hrel;have hV:=HA.out.small (by omega)
 by_cases hlt:k<n
 ·obtain⟨x,hx⟩: ∃x,s[k]? =some x:=⟨_,am9 (aI HN.out)⟩
  have ix:=bB s k x hx;cases hd:aD x
  ·have HR:=hid (HA.out.skip hx hd)
   have HD:=hid hd;clear hx hd HA
   go_wp2_with (go_at_call 308;refine av (Yc x _) ?_;rw[HD.out])
   go_round
   case rel=>exact⟨k+1,V,by omega,by go_num,rfl,HR.out⟩
   case measure=>simp[intOf];omega
  have HR:=hid (HA.out.step hx hd)
  have HD:=hid hd;obtain⟨x1,x2⟩:=qc hd;clear hx hd HA
  go_wp2_with (go_at_call 308;refine av (Yc x _) ?_;rw[HD.out])
  go_round
  case rel=>exact⟨k+1,_,by omega,by go_num,by congr 1;omega,HR.out⟩
  case measure=>simp[intOf];omega
 obtain rfl:k=n:=by omega
 have hv:=HV.out V HA.out;obtain⟨v,ym⟩: ∃v:Int,(if b=true then -(V:Int)else(V:Int))=v:=⟨_,rfl⟩;rw[ym]at hv;have LG: -100000000000<=v/\v<=100000000000:=by rw[<-ym];split<;>omega
 have IT:=hid (fun(w:World) (g:Gl w)=>yq v (by omega) (by omega) w g);cases hq:bO v with
 | true=>
   have HO:=hid (alY hv hq);have HQ:=hid hq;obtain⟨u,hu⟩:=aj (aoe v);rw[hu]at HO IT;have hz:((tx u).toList==(tx s).toList)=(u==s):=iQ u s;generalize (u==s)=bb at*;clear hv hq hu HA HV;cases b
   all_goals
    simp only[if_true,aoK,if_false]at ym;subst ym;go_wp2_with fail;refine(IT.out _ HG.out).mono ?_;rintro e w1 ⟨rfl,E⟩;cases bb
    all_goals
     go_wp2_with (go_at_call 309;refine av (C8 _ _) ?_;rw[HQ.out])
     go_ret2
     exact⟨_,_,rfl,HO.out,E⟩
 | false=>
   have HO:=hid (alX hv hq);have HQ:=hid hq;obtain⟨u,hu⟩:=aj (aoe v);rw[hu]at IT;have hz:((tx u).toList==(tx s).toList)=(u==s):=iQ u s;generalize (u==s)=bb at*;clear hv hq hu HA HV;cases b
   all_goals
    simp only[if_true,aoK,if_false]at ym;subst ym;go_wp2_with fail;refine(IT.out _ HG.out).mono ?_;rintro e w1 ⟨rfl,E⟩;cases bb
    all_goals
     go_wp2_with (go_at_call 309;refine av (C8 _ _) ?_;rw[HQ.out])
     go_ret2
     exact⟨_,_,rfl,HO.out _,E⟩
theorem C9:UF aq 85:=fun c=>AU c _ (by decide)
theorem Db(s:Tx)(a b:Nat)(hab:a<=b)(hb:b<=s.length)(hl:s.length<=262144)(w:World):Calls prog 86 #[.string (tx s),.int .i64 a,.int .i64 b] w fun e w'=>e= .returned (.int .i64 (b-(ax (aW s a b)).length:Nat))/\w=w':=by
 obtain⟨j,h1,h2,h3,h4,h5⟩:=pK aq (aW s a b) _ 0 (anb _) (apL _);have hlen:=wO (a:=a) hb;obtain⟨J,hJ⟩:=aj (b-(ax (aW s a b)).length)
 have eK:J=a+j:=by
  have:=congrArg List.length (aoj (p:=aq) (l:=aW s a b));rw[ap0]at h5;rw[aoW]at this;rw[<-hJ];unfold ax;omega
 rw[hJ]
 have HS:=hid (show ∀q,a<=q->q<J-> ∃x,s[q]? =some x/\aq x=true from fun q h6 h7=>by
  obtain⟨x,hx,hb⟩:=h3 (q-a) (apL _) (by omega);rw[Dk (by omega),show a+(q-a)=q by omega]at hx;exact⟨x,hx,hb⟩)
 have HE:=hid (show J<b-> ∃x,s[J]? =some x/\aq x=false from fun hlt=>by
  obtain⟨x,hx⟩: ∃x,(aW s a b)[j]? =some x:=⟨_,am9 (by omega)⟩;have:=h4 x hx;rw[Dk (by omega),<-eK]at hx;exact⟨x,hx,this⟩)
 have hjb:J<=b:=by omega
 have Ut:a<=J:=by omega
 have de:b<=262144:=by omega
 clear h1 h2 h3 h4 h5 hlen eK hb hl hab hJ;go_in;go_wp2_with fail
 go_loop [1] (fun x=> ∃q:Nat,a<=q/\q<=J/\x= .int .i64 q) (fun x=>J-(intOf x).toNat)
 ·exact⟨a,anb _,Ut,rfl⟩
 obtain⟨q,UB,UD,rfl⟩:=hrel
 by_cases hlt:q<J
 ·obtain⟨x,hx,gD⟩:=HS.out q UB hlt
  have ix:=bB s q x hx;have zk:decide ((q:Int)<(b:Int))=true:=ah;have HB:=hid gD;clear hx gD
  go_wp2_with (go_at_call 85;refine av (C9 x _) ?_;rw[HB.out])
  go_round
  case rel=>exact⟨q+1,by omega,by omega,by go_num⟩
  case measure=>simp[intOf];omega
 obtain rfl:q=J:=by omega
 by_cases hkn:q<b
 ·obtain⟨x,hx,gD⟩:=HE.out hkn
  have ix:=bB s q x hx;have zk:decide ((q:Int)<(b:Int))=true:=ah;have HB:=hid gD;clear hx gD
  go_wp2_with (go_at_call 85;refine av (C9 x _) ?_;rw[HB.out])
  go_ret;exact⟨rfl,rfl⟩
 have zk:decide ((q:Int)<(b:Int))=false:=ah
 go_wp2;go_ret;exact⟨rfl,rfl⟩
theorem Nk(s:Tx)(a b:Nat)(hab:a<=b)(hb:b<=s.length)(hl:s.length<=262144)(w:World):Calls prog 87 #[.string (tx s),.int .i64 a,.int .i64 b] w fun e w'=>e= .returned (.int .i64 (a+(cr (aW s a b)).length:Nat))/\w=w':=by
 obtain⟨j,h1,h2,h3,h4,h5⟩:=pK aq (aW s a b).reverse _ 0 (anb _) (apL _);have hlen:=wO (a:=a) hb;rw[anN]at h2;obtain⟨J,hJ⟩:=aj (a+(cr (aW s a b)).length)
 have eK:J=b-j:=by
  have:=congrArg List.length (aoj (p:=aq) (l:=(aW s a b).reverse));rw[ap0]at h5;rw[aoW,anN]at this;rw[<-hJ];unfold cr;rw[anN];omega
 rw[hJ]
 have rv: ∀i,i<b-a->(aW s a b).reverse[i]? =s[b-1-i]? :=fun i hi=>by
  rw[List.getElem?_reverse (by omega),hlen,Dk (by omega)]
  congr 1;omega
 have HS:=hid (show ∀q,J<q->q<=b-> ∃x,s[q-1]? =some x/\aq x=true from fun q h6 h7=>by
  obtain⟨x,hx,hb⟩:=h3 (b-q) (apL _) (by omega);rw[rv _ (by omega),show b-1-(b-q)=q-1 by omega]at hx;exact⟨x,hx,hb⟩)
 have HE:=hid (show a<J-> ∃x,s[J-1]? =some x/\aq x=false from fun hlt=>by
  obtain⟨x,hx⟩: ∃x,(aW s a b).reverse[j]? =some x:=⟨_,am9 (by rw[anN];omega)⟩;have:=h4 x hx;rw[rv j (by omega),show b-1-j=J-1 by omega]at hx;exact⟨x,hx,this⟩)
 have hjb:J<=b:=by omega
 have Ut:a<=J:=by omega
 have de:b<=262144:=by omega
 clear h1 h2 h3 h4 h5 hlen eK hb hl rv hJ hab;go_in;go_wp2_with fail
 go_loop [2] (fun x=> ∃q:Nat,J<=q/\q<=b/\x= .int .i64 q) (fun x=>(intOf x).toNat)
 ·exact⟨b,hjb,anb _,rfl⟩
 obtain⟨q,UB,UD,rfl⟩:=hrel
 by_cases hlt:J<q
 ·obtain⟨x,hx,gD⟩:=HS.out q hlt UD
  have ix:=bB s (q-1) x hx;rw[show((q-1:Nat):Int)=(q:Int)-1 by omega]at ix;have zk:decide ((a:Int)<(q:Int))=true:=ah;have HB:=hid gD;clear hx gD
  go_wp2_with (go_at_call 85;refine av (C9 x _) ?_;rw[HB.out])
  go_round
  case rel=>exact⟨q-1,by omega,by omega,by congr 1;omega⟩
  case measure=>simp[intOf];omega
 obtain rfl:q=J:=by omega
 by_cases hkn:a<q
 ·obtain⟨x,hx,gD⟩:=HE.out hkn
  have ix:=bB s (q-1) x hx;rw[show((q-1:Nat):Int)=(q:Int)-1 by omega]at ix;have zk:decide ((a:Int)<(q:Int))=true:=ah;have HB:=hid gD;clear hx gD
  go_wp2_with (go_at_call 85;refine av (C9 x _) ?_;rw[HB.out])
  go_ret;exact⟨rfl,rfl⟩
 have zk:decide ((a:Int)<(q:Int))=false:=ah
 go_wp2;go_ret;exact⟨rfl,rfl⟩
open Go.Sort
theorem Yd(s:Tx)(hl:s.length<=9223372036854775807)(w:World)(g:Gl w):Calls prog 188 #[.string (tx s)] w (Ew (gM s) w):=by
 obtain⟨n,hn⟩:=aj ((tx s).size);have HN:=hid (show n=s.length by rw[<-hn,aM]);have hnb:n<=9223372036854775807:=by rw[HN.out];exact hl
 by_cases h2:n<2
 ·have HR:=hid (show gM s=none by
   unfold gM;split
   ·have e:s.drop 1=[]:=anj (aI HN.out)
    rw[e];exact ML (.inl rfl)
   rfl)
  have z0:decide ((n:Int)<2)=true:=ah;clear g hl;go_in;go_wp2
  go_ret2
  exact⟨0,false,rfl,HR.out,oz⟩
 have z0:decide ((n:Int)<2)=false:=ah;obtain⟨c,hc⟩: ∃c,s[0]? =some c:=⟨_,am9 (aI HN.out)⟩;have hh:s.head?=some c:=by rw[<-hc];cases s<;>rfl
 have i0:=kJ s c hc;have Fp:((c.toNat:Int)==36)=(c==36):=iW (x:=c) 36 (by decide)
 by_cases iH:c=36
 ·have z1:((c.toNat:Int)==36)=true:=by rw[Fp];simpa using iH
  have HR:=hid (show gM s=aU (s.drop 1) by unfold gM;rw[if_pos (by rw[hh,iH])]);have NI:=hid (ah3 (s.drop 1) ah w g);have sf:=qD s 1 (aI HN.out);rw[show((1:Nat):Int)=1 from rfl]at sf;generalize hu:s.drop 1=u at*;clear g hl hc hh Fp iH hu;go_in;go_wp2_with fail;refine NI.out.mono ?_;rintro e w1 ⟨v,ok,rfl,HO,E⟩;have HO:=hid HO;go_wp2
  go_ret2
  exact⟨v,ok,rfl,by rw[HR.out];exact HO.out,E⟩
 have z1:((c.toNat:Int)==36)=false:=by rw[Fp];simpa using iH
 have HR:=hid (show gM s=none by unfold gM;rw[if_neg (by rw[hh];intro e;exact iH (an4 e))]);clear g hl hc hh Fp iH;go_in;go_wp2
 go_ret2
 exact⟨0,false,rfl,HR.out,oz⟩
theorem Nj(s:Tx)(w:World):Calls prog 189 #[.string (tx s)] w (aJ w (.tuple #[.int .i64 (qA (cK s)).1,.int .i64 (qA (cK s)).2])):=by
 have NM:=hid (fun w=>aiS w);go_in;go_wp2
 go_loopw [4] (fun i wr=> ∃k:Nat,k<=15/\i= .int .i64 k/\Below w.heap.size w wr/\Hid (∀m,m<k->cI m≠s)) (fun i _=>15-(intOf i).toNat)
 ·exact⟨0,by omega,rfl,oz,fun m hm=>absurd hm (Nat.not_lt_zero m)⟩
 obtain⟨k,hk,rfl,E,HM⟩:=hrel
 by_cases hlt:k<15
 ·by_cases he:cI k=s
  ·have hz:((tx (cI k)).toList==(tx s).toList)=true:=by rw[iQ];simpa using he
   have HR:=hid (Yx hlt he);clear he;go_wp2_with fail;refine(NM.out _).mono ?_;rintro e w1 ⟨a,rfl,T,B⟩;have ix:=T.idx hlt;have cx:=T.cell hlt;have E:=E.trans (B.mono E.size);clear T B;go_wp2
   go_ret2
   exact⟨GQ (by rw[HR.out]) (by rw[HR.out]),E⟩
  have hz:((tx (cI k)).toList==(tx s).toList)=false:=mY he
  have eo:=hid (show ∀m,m<k+1->cI m≠s from fun m hm=>by
   rcases Nat.lt_succ_iff_lt_or_eq.1 hm with h|h
   ·exact HM.out m h
   subst h;exact he)
  clear he;go_wp2_with fail;refine(NM.out _).mono ?_;rintro e w1 ⟨a,rfl,T,B⟩;have ix:=T.idx hlt;have cx:=T.cell hlt;have E:=E.trans (B.mono E.size);clear T B;go_wp2
  go_roundw;exact⟨k+1,by omega,by go_num,E,eo⟩;simp[intOf];omega
 obtain rfl:k=15:=by omega
 have HR:=hid (Yz HM.out);go_wp2
 go_ret2
 exact⟨GQ (by rw[HR.out]) (by rw[HR.out]),E⟩
theorem Ye(x y z:Tx)(hl:y.length<=9223372036854775807)(a:Option Addr)(c:Nat)(w:World)(T:bS w a [x,y,z]):
 Calls prog 187 #[.slice a 3 c] w fun e w'=>e= .returned (.tuple #[.string (tx y),.bool (fA x y z).isSome])/\QW w w':=by
 have i0: ∀c w',(anm 42 (.slice a 3 c) (.int .i64 0)).run prog w'=_:=T.idx 0 (by simp);have i1: ∀c w',(anm 42 (.slice a 3 c) (.int .i64 1)).run prog w'=_:=T.idx 1 (by simp);have i2: ∀c w',(anm 42 (.slice a 3 c) (.int .i64 2)).run prog w'=_:=T.idx 2 (by simp);have c0:w.cell? ⟨bk a,fo a+0,none⟩=some (.string (tx x)):=T.cell 0 (by simp);have c1:w.cell? ⟨bk a,fo a+1,none⟩=some (.string (tx y)):=T.cell 1 (by simp);have c2:w.cell? ⟨bk a,fo a+2,none⟩=some (.string (tx z)):=T.cell 2 (by simp);have i0:=i0 c;have i1:=i1 c;have i2:=i2 c;simp only[Nat.add_zero]at i0 c0;have NA:=hid (fun w=>yP y hl w)
 have HP:=hid (show ∀b1 b2 b3,decide (x=[91])=b1->decide (z=[93])=b2->aC y=b3->(fA x y z).isSome=(b1&&b2&&b3)from fun b1 b2 b3 h1 h2 h3=>by
  subst h1 h2 h3;unfold fA
  by_cases h1:x=[91]<;>by_cases h2:z=[93]<;>cases aC y<;>simp[h1,h2])
 clear T
 by_cases h1:x=[91]
 ·have z1:((tx x).toList==[91])=true:=by rw[bh,h1];decide
  by_cases h2:z=[93]
  ·have z2:((tx z).toList==[93])=true:=by rw[bh,h2];decide
   have HQ:=hid (HP.out true true (aC y) (by simpa using h1) (by simpa using h2) rfl);generalize (fA x y z).isSome=pb at*;clear h1 h2 HP;cases hb:aC y with
   | true=>
     have HB:=hid hb;rw[hb]at HQ NA;clear hb;go_in;go_wp2_with fail
     go_region_with (go_at_call 252;refine av (NA.out _) ?_)
     all_goals go_wp2_with fail
     all_goals go_ret2
     all_goals exact⟨by rw[HQ.out];rfl,mj⟩
   | false=>
     have HB:=hid hb;rw[hb]at HQ NA;clear hb;go_in;go_wp2_with fail
     go_region_with (go_at_call 252;refine av (NA.out _) ?_)
     all_goals go_wp2_with fail
     all_goals go_ret2
     all_goals exact⟨by rw[HQ.out];rfl,mj⟩
  have z2:((tx z).toList==[93])=false:=cY _ _ h2
  have HQ:=hid (HP.out true false (aC y) (by simpa using h1) (by simpa using h2) rfl);generalize (fA x y z).isSome=pb at*;clear h1 h2 HP;go_in;go_wp2_with fail
  go_quiet ((go_at_call 252;exact an6 (NA.out _)))
  all_goals go_wp2_with fail
  all_goals go_ret2
  all_goals exact⟨by rw[HQ.out];rfl,mj⟩
 have z1:((tx x).toList==[91])=false:=cY _ _ h1
 have HQ:=hid (HP.out false (decide (z=[93])) (aC y) (by simpa using h1) rfl rfl);generalize (fA x y z).isSome=pb at*;clear h1 HP;go_in;go_wp2_with fail
 go_quiet ((go_at_call 252;exact an6 (NA.out _)))
 all_goals go_wp2_with fail
 all_goals go_ret2
 all_goals exact⟨by rw[HQ.out];rfl,mj⟩
theorem alL{p:UInt8->Bool}{l:Tx}{n:Nat}(h:(l.takeWhile p).length=n):l.takeWhile p=l.take n/\l.dropWhile p=l.drop n:=by
 have e:=aoj (p:=p) (l:=l)
 constructor
 ·conv=>rhs;rw[<-e,<-h]
  rw[List.take_left]
 conv=>rhs;rw[<-e,<-h]
 rw[List.drop_left]
theorem amc{q:Nat}(hc:s[k]? =some c)(hi:eX c=true)(h5:((s.drop (k+1)).takeWhile eX).length=q-(k+1))(Uw:k+1<=q):aR (s.drop k)=(s.take q).drop k::aR (s.drop q):=by
 obtain⟨hlt,rfl⟩:=anx.1 hc;obtain⟨e1,e2⟩:=alL h5;rw[aoI hlt,DJ _ hi,e1,e2,List.drop_drop,show k+1+(q-(k+1))=q by omega]
 congr 1
 have e3:(s.take q).drop k=(s.drop k).take (q-k):=by rw[List.drop_take]
 rw[e3,aoI hlt,show q-k=(q-(k+1))+1 by omega,List.take_succ_cons]
theorem amb(hc:s[k]? =some c)(hi:nQ c=true):aR (s.drop k)=(s.take (k+1)).drop k::aR (s.drop (k+1)):=by
 obtain⟨hlt,rfl⟩:=anx.1 hc;have e3:(s.take (k+1)).drop k=(s.drop k).take 1:=by rw[List.drop_take];congr 1;omega
 rw[e3,aoI hlt,Hz _ hi];rfl
theorem ama(hc:s[k]? =some c)(hi:aq c=true):aR (s.drop k)=aR (s.drop (k+1)):=by
 obtain⟨hlt,rfl⟩:=anx.1 hc;rw[aoI hlt,aaa _ hi]
theorem UY(h:eX x=true):aq x=false/\((x.toNat:Int)==91)=false/\((x.toNat:Int)==93)=false/\((x.toNat:Int)==44)=false:=by
 unfold eX nQ at h;have a':((x.toNat:Int)==91)=(x==91):=iW (x:=x) 91 (by decide);have b':((x.toNat:Int)==93)=(x==93):=iW (x:=x) 93 (by decide);have c':((x.toNat:Int)==44)=(x==44):=iW (x:=x) 44 (by decide);rw[a',b',c']
 revert h
 cases aq x<;>cases(x==91)<;>cases(x==93)<;>cases(x==44)<;>simp
theorem UZ(h:eX x=false):aq x=true\/(aq x=false/\((x.toNat:Int)==91)=true)\/(aq x=false/\((x.toNat:Int)==91)=false/\((x.toNat:Int)==93)=true)\/(aq x=false/\((x.toNat:Int)==91)=false/\((x.toNat:Int)==93)=false/\((x.toNat:Int)==44)=true):=by
 unfold eX nQ at h;have a':((x.toNat:Int)==91)=(x==91):=iW (x:=x) 91 (by decide);have b':((x.toNat:Int)==93)=(x==93):=iW (x:=x) 93 (by decide);have c':((x.toNat:Int)==44)=(x==44):=iW (x:=x) 44 (by decide);rw[a',b',c']
 revert h
 cases aq x<;>cases(x==91)<;>cases(x==93)<;>cases(x==44)<;>simp
theorem akz(hb:aq x=false)(h:eX x=false):nQ x=true:=by
 unfold eX at h
 revert h
 rw[hb];cases nQ x<;>simp
theorem oX(h:((x.toNat:Int)==n)=false):((x.toNat:Int) != n)=true:=by simpa using h
theorem xH(h:((x.toNat:Int)==n)=true):((x.toNat:Int) != n)=false:=by simpa using h
def Qx(s:Tx)(w:World)(e:Ending)(w':World):Prop:= ∃a c,e= .returned (.slice a (aR s).length c)/\iS w' w.heap.size a (aR s).length c (aR s)/\Below w.heap.size w w'
theorem aia(s:Tx)(hl:s.length<=262144)(w:World):Calls prog 103 #[.string (tx s)] w (Qx s w):=by
 obtain⟨n,hn⟩:=aj ((tx s).size);have HN:=hid (show n=s.length by rw[<-hn,aM]);have hnb:n<=262144:=by rw[HN.out];exact hl
 obtain⟨T,hT⟩:=aj (aR s);have HT:=hid (show aR (s.drop 0)=T by rw[ap0];exact hT);unfold Qx;rw[hT];clear hl hT;go_in;go_wp2
 go_loopw [3,4] (fun o i wr=> ∃(k:Nat) (a:Option Addr) (c:Nat) (out:List Tx),k<=n/\i= .int .i64 k/\o= .slice a out.length c/\out.length<=k/\iS wr w.heap.size a out.length c out/\Hid (T=out++aR (s.drop k))/\Below w.heap.size w wr) (fun o i _=>n-(intOf i).toNat)
 ·exact⟨0,none,0,[],by omega,rfl,rfl,by simp,Own.nil _ _ _ _,HT.out.symm,oz⟩
 obtain⟨k,a,c,out,hk,rfl,rfl,ho,hO,HO,E⟩:=hrel
 by_cases hlt:k<n
 ·obtain⟨x,hx⟩: ∃x,s[k]? =some x:=⟨_,am9 (aI HN.out)⟩
  have ix:=bB s k x hx;have zk:decide ((k:Int)<(n:Int))=true:=ah;cases hb:aq x with
  | true=>
    have HB:=hid hb;have jV:=hid (HO.out.trans (by rw[ama hx hb]));clear hb hx
    go_wp2_with (go_at_call 186;refine av (mP x _) ?_;rw[HB.out])
    go_roundw;exact⟨k+1,a,c,out,by omega,by go_num,rfl,by omega,hO,jV,E⟩;simp[intOf];omega
  | false=>
    have HB:=hid hb;cases hi:eX x with
    | true=>
      obtain⟨-, y1,y2,y3⟩:=UY hi;have m1:=oX y1;have m2:=oX y2;have m3:=oX y3;obtain⟨q,q1,q2,q3,q4,q5⟩:=pK eX s _ (k+1) (anb _) (aI HN.out);have sl:=jD s k q (by omega) q2;obtain⟨u,hu⟩:=aj ((s.take q).drop k);have jV:=hid (show T=(out++[u])++aR (s.drop q) by rw[HO.out,amc hx hi q5 q1,hu];simp);rw[hu]at sl;have HQ:=hid q3;have IF:=hid q4;have rK:q<=n:=by rw[HN.out];exact q2
      clear hb hx hi q2 q3 q4 q5 hu
      go_wp2_with (go_at_call 186;refine av (mP x _) ?_;rw[HB.out])
      go_loop [6] (fun y=> ∃k2:Nat,k+1<=k2/\k2<=q/\y= .int .i64 k2) (fun y=>q-(intOf y).toNat)
      ·exact⟨k+1,anb _,q1,by go_num⟩
      obtain⟨k2,fQ,hk2,rfl⟩:=hrel
      by_cases bU:k2<q
      ·obtain⟨y,hy,hyp⟩:=HQ.out k2 fQ bU
       have iy:=bB s k2 y hy;have nj:decide ((k2:Int)<(n:Int))=true:=ah;obtain⟨eL,v1,v2,v3⟩:=UY hyp;have n1:=oX v1;have n2:=oX v2;have n3:=oX v3;have HY:=hid eL;clear hy hyp eL
       go_wp2_with (go_at_call 186;refine av (mP y _) ?_;rw[HY.out])
       go_round
       case rel=>exact⟨k2+1,by omega,by omega,by go_num⟩
       case measure=>simp[intOf];omega
      obtain rfl:k2=q:=by omega
      by_cases lJ:k2<n
      ·obtain⟨y,hy⟩: ∃y,s[k2]? =some y:=⟨_,am9 (aI HN.out)⟩
       have hyp:=IF.out y hy;have iy:=bB s k2 y hy;have nj:decide ((k2:Int)<(n:Int))=true:=ah;clear hy;rcases UZ hyp with h|⟨h,v1⟩|⟨h,v1,v2⟩|⟨h,v1,v2,v3⟩
       ·have HY:=hid h
        clear h hyp
        go_wp2_with (first|(go_at_call 186;refine av (mP y _) ?_;rw[HY.out])|(at_builtin;go_loud(refine jd jc (.tmp 63) (.tmp 68) rfl rfl rfl hO rfl rfl jf E E.size (by omega) cz ?_)))
        intro a' c' w2 dS hG kQ;have dr:iS w2 w.heap.size a' (out++[u]).length c' (out++[u]):=by simpa[iS]using dS
        clear dS hG;go_wp2
        go_roundw;exact⟨k2,a',c',out++[u],by omega,by go_num,by simp,ah,dr,jV,kQ⟩;simp[intOf];omega
       ·have HY:=hid h
        clear h hyp;have n1:=xH v1
        go_wp2_with (first|(go_at_call 186;refine av (mP y _) ?_;rw[HY.out])|(at_builtin;go_loud(refine jd jc (.tmp 63) (.tmp 68) rfl rfl rfl hO rfl rfl jf E E.size (by omega) cz ?_)))
        intro a' c' w2 dS hG kQ;have dr:iS w2 w.heap.size a' (out++[u]).length c' (out++[u]):=by simpa[iS]using dS
        clear dS hG;go_wp2
        go_roundw;exact⟨k2,a',c',out++[u],by omega,by go_num,by simp,ah,dr,jV,kQ⟩;simp[intOf];omega
       ·have HY:=hid h
        clear h hyp;have n1:=oX v1;have n2:=xH v2
        go_wp2_with (first|(go_at_call 186;refine av (mP y _) ?_;rw[HY.out])|(at_builtin;go_loud(refine jd jc (.tmp 63) (.tmp 68) rfl rfl rfl hO rfl rfl jf E E.size (by omega) cz ?_)))
        intro a' c' w2 dS hG kQ;have dr:iS w2 w.heap.size a' (out++[u]).length c' (out++[u]):=by simpa[iS]using dS
        clear dS hG;go_wp2
        go_roundw;exact⟨k2,a',c',out++[u],by omega,by go_num,by simp,ah,dr,jV,kQ⟩;simp[intOf];omega
       have HY:=hid h
       clear h hyp;have n1:=oX v1;have n2:=oX v2;have n3:=xH v3
       go_wp2_with (first|(go_at_call 186;refine av (mP y _) ?_;rw[HY.out])|(at_builtin;go_loud(refine jd jc (.tmp 63) (.tmp 68) rfl rfl rfl hO rfl rfl jf E E.size (by omega) cz ?_)))
       intro a' c' w2 dS hG kQ;have dr:iS w2 w.heap.size a' (out++[u]).length c' (out++[u]):=by simpa[iS]using dS
       clear dS hG;go_wp2
       go_roundw;exact⟨k2,a',c',out++[u],by omega,by go_num,by simp,ah,dr,jV,kQ⟩;simp[intOf];omega
      have nj:decide ((k2:Int)<(n:Int))=false:=ah
      go_wp2_with (at_builtin;go_loud(refine jd jc (.tmp 63) (.tmp 68) rfl rfl rfl hO rfl rfl jf E E.size (by omega) cz ?_))
      intro a' c' w2 dS hG kQ;have dr:iS w2 w.heap.size a' (out++[u]).length c' (out++[u]):=by simpa[iS]using dS
      clear dS hG;go_wp2
      go_roundw;exact⟨k2,a',c',out++[u],by omega,by go_num,by simp,ah,dr,jV,kQ⟩;simp[intOf];omega
    | false=>
      have hs:=akz hb hi;have sl:=jD s k (k+1) (by omega) (aI HN.out);rw[show((k+1:Nat):Int)=(k:Int)+1 by omega]at sl;obtain⟨u,hu⟩:=aj ((s.take (k+1)).drop k);have jV:=hid (show T=(out++[u])++aR (s.drop (k+1)) by rw[HO.out,amb hx hs,hu];simp);rw[hu]at sl;rcases UZ hi with h|⟨h,v1⟩|⟨h,v1,v2⟩|⟨h,v1,v2,v3⟩
      ·rw[hb]at h;cases h
      ·clear h hx hb hi hs hu
       have n1:=xH v1
       go_wp2_with (go_at_call 186;refine av (mP x _) ?_;rw[HB.out])
       go_loop [6] (fun y=>y= .int .i64 ((k:Int)+1)) (fun _=>0)
       ·go_num
       subst hrel
       go_wp2_with (at_builtin;go_loud(refine jd jc (.tmp 63) (.tmp 68) rfl rfl rfl hO rfl rfl jf E E.size (by omega) cz ?_))
       intro a' c' w2 dS hG kQ;have dr:iS w2 w.heap.size a' (out++[u]).length c' (out++[u]):=by simpa[iS]using dS
       clear dS hG;go_wp2
       go_roundw;exact⟨k+1,a',c',out++[u],by omega,by go_num,by simp,ah,dr,jV,kQ⟩;simp[intOf];omega
      ·clear h hx hb hi hs hu
       have n1:=oX v1;have n2:=xH v2
       go_wp2_with (go_at_call 186;refine av (mP x _) ?_;rw[HB.out])
       go_loop [6] (fun y=>y= .int .i64 ((k:Int)+1)) (fun _=>0)
       ·go_num
       subst hrel
       go_wp2_with (at_builtin;go_loud(refine jd jc (.tmp 63) (.tmp 68) rfl rfl rfl hO rfl rfl jf E E.size (by omega) cz ?_))
       intro a' c' w2 dS hG kQ;have dr:iS w2 w.heap.size a' (out++[u]).length c' (out++[u]):=by simpa[iS]using dS
       clear dS hG;go_wp2
       go_roundw;exact⟨k+1,a',c',out++[u],by omega,by go_num,by simp,ah,dr,jV,kQ⟩;simp[intOf];omega
      clear h hx hb hi hs hu
      have n1:=oX v1;have n2:=oX v2;have n3:=xH v3
      go_wp2_with (go_at_call 186;refine av (mP x _) ?_;rw[HB.out])
      go_loop [6] (fun y=>y= .int .i64 ((k:Int)+1)) (fun _=>0)
      ·go_num
      subst hrel
      go_wp2_with (at_builtin;go_loud(refine jd jc (.tmp 63) (.tmp 68) rfl rfl rfl hO rfl rfl jf E E.size (by omega) cz ?_))
      intro a' c' w2 dS hG kQ;have dr:iS w2 w.heap.size a' (out++[u]).length c' (out++[u]):=by simpa[iS]using dS
      clear dS hG;go_wp2
      go_roundw;exact⟨k+1,a',c',out++[u],by omega,by go_num,by simp,ah,dr,jV,kQ⟩;simp[intOf];omega
 obtain rfl:k=n:=by omega
 have HF:=hid (show T=out by
  rw[HO.out,show s.drop k=[]from anj (aI HN.out)];simp[aR,qK,fJ])
 have zk:decide ((k:Int)<(k:Int))=false:=by simp
 go_wp2;go_ret;have hf:=HF.out;subst hf;exact⟨a,c,rfl,hO,E⟩
end Go.Proofs.YtkbbgjloifmmbaaGreatDoor
