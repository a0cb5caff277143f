/- What ReadPiecesP leans on, part 5. -/
import Derived.Test.YtkbbgjloifmmbaaGreatDoorRp4
import Derived.Deep.DeepCutAuto
set_option linter.unusedVariables false
set_option maxRecDepth 100000
set_option maxHeartbeats 6400000
namespace Go.Proofs.YtkbbgjloifmmbaaGreatDoor
open Go.RowKit
theorem progRead_sw(l:List Tx)(a:Option Addr)(c:Nat)(w:World)(h:Txs w a l)(hs:Sm l):Calls Tryz.prog 102 #[.string (tx [115,119]),.slice a l.length c] w (Rd (readI [115,119] (l.map trimT)) w):=by
 have z0:((tx [115,119]).toList==[108,119])=false:=by rw[tx_toList];rfl
 have z1:((tx [115,119]).toList==[115,119])=true:=by rw[tx_toList];rfl
 have C:=hid (moved_sw l a c (w.alloc zeroI) (h.below (al _ _)) hs);generalize readI [115,119] (l.map trimT)=r at*;generalize l.length=n at*;go_enter Tryz.func102,Tryz.ntmps102;go_wp2_with fail;refine C.out.mono ?_;rintro e w1 ⟨op,d,a1,b,imm,label,fence,ok,rfl,hk,hl,E⟩;obtain⟨⟨d0,d1,d2,d3,d4,d5,d6,d7⟩,hf,hlt,B⟩:=fresh8 E;have HK:=hid hk;clear hk E h hs;go_wp2_with fail;exact bodyPost_ret (by simp[results,Tryz.results102,go_sem,d0,d1,d2,d3,d4,d5,d6,d7]) rfl ⟨op,d,a1,b,imm,label,fence,ok,rfl,HK.out,hl,blA⟩
theorem progRead_fence(l:List Tx)(a:Option Addr)(c:Nat)(w:World)(h:Txs w a l)(hs:Sm l):Calls Tryz.prog 102 #[.string (tx [102,101,110,99,101]),.slice a l.length c] w (Rd (readI [102,101,110,99,101] (l.map trimT)) w):=by
 have z0:((tx [102,101,110,99,101]).toList==[108,119])=false:=by rw[tx_toList];rfl
 have z1:((tx [102,101,110,99,101]).toList==[115,119])=false:=by rw[tx_toList];rfl
 have z2:((tx [102,101,110,99,101]).toList==[102,101,110,99,101])=true:=by rw[tx_toList];rfl
 have C:=hid (fence_rd l a c (w.alloc zeroI) (h.below (al _ _)) hs);generalize readI [102,101,110,99,101] (l.map trimT)=r at*;generalize l.length=n at*;go_enter Tryz.func102,Tryz.ntmps102;go_wp2_with fail;refine C.out.mono ?_;rintro e w1 ⟨op,d,a1,b,imm,label,fence,ok,rfl,hk,hl,E⟩;obtain⟨⟨d0,d1,d2,d3,d4,d5,d6,d7⟩,hf,hlt,B⟩:=fresh8 E;have HK:=hid hk;clear hk E h hs;go_wp2_with fail;exact bodyPost_ret (by simp[results,Tryz.results102,go_sem,d0,d1,d2,d3,d4,d5,d6,d7]) rfl ⟨op,d,a1,b,imm,label,fence,ok,rfl,HK.out,hl,blA⟩
theorem read_3no{op:Tx}{l:List Tx}(h1:op≠[108,119])(h2:op≠[115,119])(h3:op≠[102,101,110,99,101])(h:l.length≠3):readI op l=none:=by
 unfold readI;rw[if_neg h1,if_neg h2,if_neg h3]
 match l with
 |[]=>rfl
 |[_]=>rfl
 |[_,_]=>rfl
 |[_,_,_]=>simp at h
 |_::_::_::_::_=>rfl
theorem read_3{op:Tx}(x y z:Tx)(h1:op≠[108,119])(h2:op≠[115,119])(h3:op≠[102,101,110,99,101]):readI op [x,y,z]=match regOf x,regOf y with
 | some a,some b=>
   if op=[98,110,101]then(if nameB z then some ⟨11,0,a,b,0,[],z,0⟩else none)
   else if op=[111,114,105]then(match numT z with
    |some n=>some ⟨8,a,b,0,n,[],[],0⟩
    |none=>none)
   else match regOf z with
    |some c=>if op=[120,111,114]then some ⟨9,a,b,c,0,[],[],0⟩else if op=[97,100,100]then some ⟨10,a,b,c,0,[],[],0⟩else none
    |none=>none
 |_,_=>none:=by
 unfold readI;rw[if_neg h1,if_neg h2,if_neg h3];rfl
theorem tx_ne(op q:Tx)(h:op≠q):((tx op).toList==q)=false:=by rw[tx_toList];simpa using h
theorem tx_be(op q:Tx)(h:op=q):((tx op).toList==q)=true:=by rw[tx_toList];simpa using h
theorem progRead_3no(op:Tx)(h1:op≠[108,119])(h2:op≠[115,119])(h3:op≠[102,101,110,99,101])(l:List Tx)(hl:l.length≠3)(a:Option Addr)(c:Nat)(w:World):Calls Tryz.prog 102 #[.string (tx op),.slice a l.length c] w (Rd (readI op (l.map trimT)) w):=by
 obtain⟨r,hr⟩: ∃r,readI op (l.map trimT)=r:=⟨_,rfl⟩;rw[hr];have HK:=hid (show keepI ⟨0,0,0,0,0,[],[],0⟩ false=r by rw[<-hr,read_3no h1 h2 h3 (by simpa using hl)];rfl);have z1:=tx_ne _ _ h1;have z2:=tx_ne _ _ h2;have z3:=tx_ne _ _ h3;have C:=hid (progThree_no l.length c a hl (w.alloc zeroI));clear h1 h2 h3 hl hr;go_enter Tryz.func102,Tryz.ntmps102;go_wp2_with fail;refine C.out.mono ?_;rintro e w1 ⟨rfl,E⟩;obtain⟨⟨d0,d1,d2,d3,d4,d5,d6,d7⟩,hf,hlt,B⟩:=fresh8 E;clear E;go_wp2_with fail;exact bodyPost_ret (by simp[results,Tryz.results102,go_sem,d0,d1,d2,d3,d4,d5,d6,d7]) rfl (Rd.of ⟨rfl,blA⟩ HK.out)
theorem progRead_bad(op:Tx)(h1:op≠[108,119])(h2:op≠[115,119])(h3:op≠[102,101,110,99,101])(x y z:Tx)(hr:((regOf (trimT x)).isSome&&(regOf (trimT y)).isSome)=false)(a:Option Addr)(c:Nat)(w:World)(h:Txs w a [x,y,z])(hs:Sm [x,y,z]):Calls Tryz.prog 102 #[.string (tx op),.slice a 3 c] w (Rd (readI op [trimT x,trimT y,trimT z]) w):=by
 have hn:readI op [trimT x,trimT y,trimT z]=none:=by
  rw[read_3 _ _ _ h1 h2 h3];cases hx:regOf (trimT x)with
  |none=>rfl
  | some p=>cases hy:regOf (trimT y)with
    |none=>rfl
    |some q=>rw[hx,hy]at hr;cases hr
 obtain⟨r,hr0⟩: ∃r,readI op [trimT x,trimT y,trimT z]=r:=⟨_,rfl⟩;rw[hr0];have HK:=hid (show keepI ⟨0,0,0,0,0,[],[],0⟩ false=r by rw[<-hr0,hn];rfl);have z1:=tx_ne _ _ h1;have z2:=tx_ne _ _ h2;have z3:=tx_ne _ _ h3;have C:=progThree3 x y z a c (w.alloc zeroI) (h.below (al _ _)) hs;rw[hr]at C;have C:=hid C;clear h1 h2 h3 hr hn hr0;go_enter Tryz.func102,Tryz.ntmps102;go_wp2_with fail;refine C.out.mono ?_;rintro e w1 ⟨rfl,E⟩;obtain⟨⟨d0,d1,d2,d3,d4,d5,d6,d7⟩,hf,hlt,B⟩:=fresh8 E;clear E;go_wp2_with fail;exact bodyPost_ret (by simp[results,Tryz.results102,go_sem,d0,d1,d2,d3,d4,d5,d6,d7]) rfl (Rd.of ⟨rfl,blA⟩ HK.out)
theorem progRead_bne(x y z:Tx)(p q:Nat)(hx:regOf (trimT x)=some p)(hy:regOf (trimT y)=some q)(a:Option Addr)(c:Nat)(w:World)(h:Txs w a [x,y,z])(hs:Sm [x,y,z])(g:Gl w):Calls Tryz.prog 102 #[.string (tx [98,110,101]),.slice a 3 c] w (Rd (readI [98,110,101] [trimT x,trimT y,trimT z]) w):=by
 have hr:readI [98,110,101] [trimT x,trimT y,trimT z]=if nameB (trimT z)then some ⟨11,0,p,q,0,[],trimT z,0⟩else none:=by
  rw[read_3 _ _ _ (by decide) (by decide) (by decide),hx,hy];rfl
 have z0:((tx [98,110,101]).toList==[108,119])=false:=by rw[tx_toList];rfl
 have z1:((tx [98,110,101]).toList==[115,119])=false:=by rw[tx_toList];rfl
 have z2:((tx [98,110,101]).toList==[102,101,110,99,101])=false:=by rw[tx_toList];rfl
 have z3:((tx [98,110,101]).toList==[98,110,101])=true:=by rw[tx_toList];rfl
 obtain⟨r,hr0⟩: ∃r,readI [98,110,101] [trimT x,trimT y,trimT z]=r:=⟨_,rfl⟩;rw[hr0];rw[hr]at hr0;clear hr;have C:=progThree3 x y z a c (w.alloc zeroI) (h.below (al _ _)) hs;have hzl:(trimT z).length<=1000000:=Nat.le_trans (trimT_length z) (hs z (by simp));have hz2:=trimT_idem z;have g1:=g.below (al w zeroI);rw[hx,hy]at C;have hp:=regOf_lt p hx;have hq:=regOf_lt q hy;generalize trimT z=tz at*;have C:Calls Tryz.prog 184 #[.slice a 3 c] (w.alloc zeroI) (Ret (w.alloc zeroI) (.tuple #[.int .i64 p,.int .i64 q,.string (tx tz),.bool true])):=C;have C:=hid C;have HK:=hid ((keep_bne (z:=tz) hp hq).trans hr0);clear hx hy hr0;go_enter Tryz.func102,Tryz.ntmps102;go_wp2_with fail;refine C.out.mono ?_;rintro e w1 ⟨rfl,E⟩;obtain⟨⟨d0,d1,d2,d3,d4,d5,d6,d7⟩,hf,hlt,B⟩:=fresh8 E;clear E g1;go_wp2_with fail;exact bodyPost_ret (by simp[results,Tryz.results102,go_sem,d0,d1,d2,d3,d4,d5,d6,d7]) rfl ⟨_,_,_,_,_,tz,_,_,rfl,HK.out,hzl,blA⟩
theorem progRead_ori_ok(x y z:Tx)(p q:Nat)(hx:regOf (trimT x)=some p)(hy:regOf (trimT y)=some q)(v:Int)(hv:Lib.atoiAll (trimT z)= .ok v)(a:Option Addr)(c:Nat)(w:World)(h:Txs w a [x,y,z])(hs:Sm [x,y,z])(g:Gl w):Calls Tryz.prog 102 #[.string (tx [111,114,105]),.slice a 3 c] w (Rd (readI [111,114,105] [trimT x,trimT y,trimT z]) w):=by
 have hr :readI [111,114,105] [trimT x,trimT y,trimT z]=match numT (trimT z)with
         |some n=>some ⟨8,p,q,0,n,[],[],0⟩
         |none=>none:=by
  rw[read_3 _ _ _ (by decide) (by decide) (by decide),hx,hy];rfl
 have z0:((tx [111,114,105]).toList==[108,119])=false:=by rw[tx_toList];rfl
 have z1:((tx [111,114,105]).toList==[115,119])=false:=by rw[tx_toList];rfl
 have z2:((tx [111,114,105]).toList==[102,101,110,99,101])=false:=by rw[tx_toList];rfl
 have z3:((tx [111,114,105]).toList==[98,110,101])=false:=by rw[tx_toList];rfl
 have z4:((tx [111,114,105]).toList==[111,114,105])=true:=by rw[tx_toList];rfl
 obtain⟨r,hr0⟩: ∃r,readI [111,114,105] [trimT x,trimT y,trimT z]=r:=⟨_,rfl⟩;rw[hr0];rw[hr]at hr0;clear hr;have C:=progThree3 x y z a c (w.alloc zeroI) (h.below (al _ _)) hs;have hzl:(trimT z).length<=1000000:=Nat.le_trans (trimT_length z) (hs z (by simp));have hz2:=trimT_idem z;have g1:=g.below (al w zeroI);rw[hx,hy]at C;have hp:=regOf_lt p hx;have hq:=regOf_lt q hy;generalize trimT z=tz at*;have C:Calls Tryz.prog 184 #[.slice a 3 c] (w.alloc zeroI) (Ret (w.alloc zeroI) (.tuple #[.int .i64 p,.int .i64 q,.string (tx tz),.bool true])):=C;have C:=hid C;obtain⟨b1,b2⟩:=Lib.atoiAll_bounds hv;have AT:=hid (atoi_ok tz hzl v hv);have HK:=hid ((keep_ori hp hq hv).trans hr0);have IT:=hid (fun(w:World) (g:Gl w)=>itoa_any v b1 b2 w g);obtain⟨u,hu⟩: ∃u,Lib.itoa v=u:=⟨_,rfl⟩;rw[hu]at HK IT;have hz:((tx u).toList==(tx tz).toList)=(u==tz):=tx_beq u tz;generalize (u==tz)=bb at*;clear hu hv b1 b2;clear hx hy hr0;go_enter Tryz.func102,Tryz.ntmps102;go_wp2_with fail;refine C.out.mono ?_;rintro e w1 ⟨rfl,E⟩;have g2:=g1.below E;go_wp2_with fail;refine(AT.out _).mono ?_;rintro e w2 ⟨rfl,E2⟩;have g3:=g2.below E2;have E:=ext_trans E E2;go_wp2_with fail;refine(IT.out _ g3).mono ?_;rintro e w3 ⟨rfl,E3⟩;have E:=ext_trans E E3;obtain⟨⟨d0,d1,d2,d3,d4,d5,d6,d7⟩,hf,hlt,B⟩:=fresh8 E;clear E g1;go_wp2_with fail;exact bodyPost_ret (by simp[results,Tryz.results102,go_sem,d0,d1,d2,d3,d4,d5,d6,d7]) rfl (Rd.of ⟨rfl,blA⟩ HK.out)
theorem progRead_ori_bad(x y z:Tx)(p q:Nat)(hx:regOf (trimT x)=some p)(hy:regOf (trimT y)=some q)(hv: ∀v,Lib.atoiAll (trimT z)≠ .ok v)(a:Option Addr)(c:Nat)(w:World)(h:Txs w a [x,y,z])(hs:Sm [x,y,z])(g:Gl w):Calls Tryz.prog 102 #[.string (tx [111,114,105]),.slice a 3 c] w (Rd (readI [111,114,105] [trimT x,trimT y,trimT z]) w):=by
 have hr :readI [111,114,105] [trimT x,trimT y,trimT z]=match numT (trimT z)with
         |some n=>some ⟨8,p,q,0,n,[],[],0⟩
         |none=>none:=by
  rw[read_3 _ _ _ (by decide) (by decide) (by decide),hx,hy];rfl
 have z0:((tx [111,114,105]).toList==[108,119])=false:=by rw[tx_toList];rfl
 have z1:((tx [111,114,105]).toList==[115,119])=false:=by rw[tx_toList];rfl
 have z2:((tx [111,114,105]).toList==[102,101,110,99,101])=false:=by rw[tx_toList];rfl
 have z3:((tx [111,114,105]).toList==[98,110,101])=false:=by rw[tx_toList];rfl
 have z4:((tx [111,114,105]).toList==[111,114,105])=true:=by rw[tx_toList];rfl
 obtain⟨r,hr0⟩: ∃r,readI [111,114,105] [trimT x,trimT y,trimT z]=r:=⟨_,rfl⟩;rw[hr0];rw[hr]at hr0;clear hr;have C:=progThree3 x y z a c (w.alloc zeroI) (h.below (al _ _)) hs;have hzl:(trimT z).length<=1000000:=Nat.le_trans (trimT_length z) (hs z (by simp));have hz2:=trimT_idem z;have g1:=g.below (al w zeroI);rw[hx,hy]at C;have hp:=regOf_lt p hx;have hq:=regOf_lt q hy;generalize trimT z=tz at*;have C:Calls Tryz.prog 184 #[.slice a 3 c] (w.alloc zeroI) (Ret (w.alloc zeroI) (.tuple #[.int .i64 p,.int .i64 q,.string (tx tz),.bool true])):=C;have C:=hid C;have AT:=hid (atoi_bad tz hzl hv);have HKn:=hid (show ∀n,keepI ⟨8,p,q,0,n,[],[],0⟩ false=r from fun n=>by rw[<-hr0,numT_bad hv];rfl);clear hv;clear hx hy hr0;go_enter Tryz.func102,Tryz.ntmps102;go_wp2_with fail;refine C.out.mono ?_;rintro e w1 ⟨rfl,E⟩;have g2:=g1.below E;go_wp2_with fail;refine(AT.out _ g2).mono ?_;rintro e w2 ⟨n,tp,pp,rfl,E2⟩;have HK:=hid (HKn.out n);have E:=ext_trans E E2;obtain⟨⟨d0,d1,d2,d3,d4,d5,d6,d7⟩,hf,hlt,B⟩:=fresh8 E;clear E g1;go_wp2_with fail;exact bodyPost_ret (by simp[results,Tryz.results102,go_sem,d0,d1,d2,d3,d4,d5,d6,d7]) rfl (Rd.of ⟨rfl,blA⟩ HK.out)
theorem progRead_xor(x y z:Tx)(p q:Nat)(hx:regOf (trimT x)=some p)(hy:regOf (trimT y)=some q)(a:Option Addr)(c:Nat)(w:World)(h:Txs w a [x,y,z])(hs:Sm [x,y,z])(g:Gl w):Calls Tryz.prog 102 #[.string (tx [120,111,114]),.slice a 3 c] w (Rd (readI [120,111,114] [trimT x,trimT y,trimT z]) w):=by
 have hr :readI [120,111,114] [trimT x,trimT y,trimT z]=match regOf (trimT z)with
         |some c=>some ⟨9,p,q,c,0,[],[],0⟩
         |none=>none:=by
  rw[read_3 _ _ _ (by decide) (by decide) (by decide),hx,hy];rfl
 have z0:((tx [120,111,114]).toList==[108,119])=false:=by rw[tx_toList];rfl
 have z1:((tx [120,111,114]).toList==[115,119])=false:=by rw[tx_toList];rfl
 have z2:((tx [120,111,114]).toList==[102,101,110,99,101])=false:=by rw[tx_toList];rfl
 have z3:((tx [120,111,114]).toList==[98,110,101])=false:=by rw[tx_toList];rfl
 have z4:((tx [120,111,114]).toList==[111,114,105])=false:=by rw[tx_toList];rfl
 have z5:((tx [120,111,114]).toList==[120,111,114])=true:=by rw[tx_toList];rfl
 obtain⟨r,hr0⟩: ∃r,readI [120,111,114] [trimT x,trimT y,trimT z]=r:=⟨_,rfl⟩;rw[hr0];rw[hr]at hr0;clear hr;have C:=progThree3 x y z a c (w.alloc zeroI) (h.below (al _ _)) hs;have hzl:(trimT z).length<=1000000:=Nat.le_trans (trimT_length z) (hs z (by simp));have hz2:=trimT_idem z;have g1:=g.below (al w zeroI);rw[hx,hy]at C;have hp:=regOf_lt p hx;have hq:=regOf_lt q hy;generalize trimT z=tz at*;have C:Calls Tryz.prog 184 #[.slice a 3 c] (w.alloc zeroI) (Ret (w.alloc zeroI) (.tuple #[.int .i64 p,.int .i64 q,.string (tx tz),.bool true])):=C;have C:=hid C;have RG:=hid (progRegister tz (by omega));rw[hz2]at RG;have HK:=hid ((keep_three (op:=9) (by omega) hp hq (o:=regOf tz) regOf_lt).trans hr0);generalize regOf tz=rz at*;clear hx hy hr0 hz2;go_enter Tryz.func102,Tryz.ntmps102;go_wp2_with fail;refine C.out.mono ?_;rintro e w1 ⟨rfl,E⟩;go_wp2_with fail;refine(RG.out _).mono ?_;rintro e w2 ⟨rfl,E2⟩;have E:=ext_trans E E2;obtain⟨⟨d0,d1,d2,d3,d4,d5,d6,d7⟩,hf,hlt,B⟩:=fresh8 E;clear E g1 E2;go_wp2_with fail;exact bodyPost_ret (by simp[results,Tryz.results102,go_sem,d0,d1,d2,d3,d4,d5,d6,d7]) rfl (Rd.of ⟨rfl,blA⟩ HK.out)
theorem progRead_add(x y z:Tx)(p q:Nat)(hx:regOf (trimT x)=some p)(hy:regOf (trimT y)=some q)(a:Option Addr)(c:Nat)(w:World)(h:Txs w a [x,y,z])(hs:Sm [x,y,z])(g:Gl w):Calls Tryz.prog 102 #[.string (tx [97,100,100]),.slice a 3 c] w (Rd (readI [97,100,100] [trimT x,trimT y,trimT z]) w):=by
 have hr :readI [97,100,100] [trimT x,trimT y,trimT z]=match regOf (trimT z)with
         |some c=>some ⟨10,p,q,c,0,[],[],0⟩
         |none=>none:=by
  rw[read_3 _ _ _ (by decide) (by decide) (by decide),hx,hy];rfl
 have z0:((tx [97,100,100]).toList==[108,119])=false:=by rw[tx_toList];rfl
 have z1:((tx [97,100,100]).toList==[115,119])=false:=by rw[tx_toList];rfl
 have z2:((tx [97,100,100]).toList==[102,101,110,99,101])=false:=by rw[tx_toList];rfl
 have z3:((tx [97,100,100]).toList==[98,110,101])=false:=by rw[tx_toList];rfl
 have z4:((tx [97,100,100]).toList==[111,114,105])=false:=by rw[tx_toList];rfl
 have z5:((tx [97,100,100]).toList==[120,111,114])=false:=by rw[tx_toList];rfl
 have z6:((tx [97,100,100]).toList==[97,100,100])=true:=by rw[tx_toList];rfl
 obtain⟨r,hr0⟩: ∃r,readI [97,100,100] [trimT x,trimT y,trimT z]=r:=⟨_,rfl⟩;rw[hr0];rw[hr]at hr0;clear hr;have C:=progThree3 x y z a c (w.alloc zeroI) (h.below (al _ _)) hs;have hzl:(trimT z).length<=1000000:=Nat.le_trans (trimT_length z) (hs z (by simp));have hz2:=trimT_idem z;have g1:=g.below (al w zeroI);rw[hx,hy]at C;have hp:=regOf_lt p hx;have hq:=regOf_lt q hy;generalize trimT z=tz at*;have C:Calls Tryz.prog 184 #[.slice a 3 c] (w.alloc zeroI) (Ret (w.alloc zeroI) (.tuple #[.int .i64 p,.int .i64 q,.string (tx tz),.bool true])):=C;have C:=hid C;have RG:=hid (progRegister tz (by omega));rw[hz2]at RG;have HK:=hid ((keep_three (op:=10) (by omega) hp hq (o:=regOf tz) regOf_lt).trans hr0);generalize regOf tz=rz at*;clear hx hy hr0 hz2;go_enter Tryz.func102,Tryz.ntmps102;go_wp2_with fail;refine C.out.mono ?_;rintro e w1 ⟨rfl,E⟩;go_wp2_with fail;refine(RG.out _).mono ?_;rintro e w2 ⟨rfl,E2⟩;have E:=ext_trans E E2;obtain⟨⟨d0,d1,d2,d3,d4,d5,d6,d7⟩,hf,hlt,B⟩:=fresh8 E;clear E g1 E2;go_wp2_with fail;exact bodyPost_ret (by simp[results,Tryz.results102,go_sem,d0,d1,d2,d3,d4,d5,d6,d7]) rfl (Rd.of ⟨rfl,blA⟩ HK.out)
theorem progRead_none(op:Tx)(h1:op≠[108,119])(h2:op≠[115,119])(h3:op≠[102,101,110,99,101])(h4:op≠[98,110,101])(h5:op≠[111,114,105])(h6:op≠[120,111,114])(h7:op≠[97,100,100])(x y z:Tx)(p q:Nat)(hx:regOf (trimT x)=some p)(hy:regOf (trimT y)=some q)(a:Option Addr)(c:Nat)(w:World)(h:Txs w a [x,y,z])(hs:Sm [x,y,z])(g:Gl w):Calls Tryz.prog 102 #[.string (tx op),.slice a 3 c] w (Rd (readI op [trimT x,trimT y,trimT z]) w):=by
 have hr:readI op [trimT x,trimT y,trimT z]=none:=by
  rw[read_3 _ _ _ h1 h2 h3,hx,hy];simp only[if_neg h4,if_neg h5,if_neg h6,if_neg h7];cases regOf (trimT z)<;>rfl
 have z1:=tx_ne _ _ h1;have z2:=tx_ne _ _ h2;have z3:=tx_ne _ _ h3;have z4:=tx_ne _ _ h4;have z5:=tx_ne _ _ h5;have z6:=tx_ne _ _ h6;have z7:=tx_ne _ _ h7;obtain⟨r,hr0⟩: ∃r,readI op [trimT x,trimT y,trimT z]=r:=⟨_,rfl⟩;rw[hr0];rw[hr]at hr0;clear hr;have C:=progThree3 x y z a c (w.alloc zeroI) (h.below (al _ _)) hs;have hzl:(trimT z).length<=1000000:=Nat.le_trans (trimT_length z) (hs z (by simp));have hz2:=trimT_idem z;have g1:=g.below (al w zeroI);rw[hx,hy]at C;have hp:=regOf_lt p hx;have hq:=regOf_lt q hy;generalize trimT z=tz at*;have C:Calls Tryz.prog 184 #[.slice a 3 c] (w.alloc zeroI) (Ret (w.alloc zeroI) (.tuple #[.int .i64 p,.int .i64 q,.string (tx tz),.bool true])):=C;have C:=hid C;have RG:=hid (progRegister tz (by omega));have HK:=hid (show keepI ⟨0,0,0,0,0,[],[],0⟩ false=r from hr0);clear hx hy hr0 hz2 h1 h2 h3 h4 h5 h6 h7;go_enter Tryz.func102,Tryz.ntmps102;go_wp2_with fail;refine C.out.mono ?_;rintro e w1 ⟨rfl,E⟩;go_wp2_with fail;refine(RG.out _).mono ?_;rintro e w2 ⟨rfl,E2⟩;have E:=ext_trans E E2;obtain⟨⟨d0,d1,d2,d3,d4,d5,d6,d7⟩,hf,hlt,B⟩:=fresh8 E;clear E g1 E2;go_wp2_with fail;exact bodyPost_ret (by simp[results,Tryz.results102,go_sem,d0,d1,d2,d3,d4,d5,d6,d7]) rfl (Rd.of ⟨rfl,blA⟩ HK.out)
theorem progRead(op:Tx)(l:List Tx)(a:Option Addr)(c:Nat)(w:World)(h:Txs w a l)(hs:Sm l)(g:Gl w):Calls Tryz.prog 102 #[.string (tx op),.slice a l.length c] w (Rd (readI op (l.map trimT)) w):=by
 by_cases h1:op=[108,119]
 ·subst h1;exact progRead_lw l a c w h hs
 by_cases h2:op=[115,119]
 ·subst h2;exact progRead_sw l a c w h hs
 by_cases h3:op=[102,101,110,99,101]
 ·subst h3;exact progRead_fence l a c w h hs
 by_cases hl:l.length=3
 ·obtain⟨x,y,z,rfl⟩:=len3 hl
  rw[show[x,y,z].map trimT=[trimT x,trimT y,trimT z]from rfl];cases hx:regOf (trimT x)with
  |none=>exact progRead_bad op h1 h2 h3 x y z (by rw[hx];rfl) a c w h hs
  | some p=>cases hy:regOf (trimT y)with
    |none=>exact progRead_bad op h1 h2 h3 x y z (by rw[hx,hy];rfl) a c w h hs
    | some q=>
      by_cases h4:op=[98,110,101]
      ·subst h4;exact progRead_bne x y z p q hx hy a c w h hs g
      by_cases h5:op=[111,114,105]
      ·subst h5
       by_cases hv: ∃v,Lib.atoiAll (trimT z)= .ok v
       ·obtain⟨v,hv⟩:=hv;exact progRead_ori_ok x y z p q hx hy v hv a c w h hs g
       ·exact progRead_ori_bad x y z p q hx hy (fun v e=>hv ⟨v,e⟩) a c w h hs g
      by_cases h6:op=[120,111,114]
      ·subst h6;exact progRead_xor x y z p q hx hy a c w h hs g
      by_cases h7:op=[97,100,100]
      ·subst h7;exact progRead_add x y z p q hx hy a c w h hs g
      exact progRead_none op h1 h2 h3 h4 h5 h6 h7 x y z p q hx hy a c w h hs g
 ·exact progRead_3no op h1 h2 h3 l hl a c w
attribute [local go_sem high] eqI neqI
theorem u8_neq(c d:UInt8)(h:c≠d):((c.toNat:Int)==(d.toNat:Int))=false:=by
 simp only[beq_eq_false_iff_ne,ne_eq];intro e;exact h (UInt8.toNat_inj.1 (by omega))
theorem progBlank:UF blankC 101:=fun c=>blanksF c _ (by decide)
theorem splitC_le(c:UInt8): ∀(l:Tx),∀x∈splitC c l,x.length<=l.length
 |[],x,h=>by simp[splitC]at h;subst h;simp
 | b::l,x,h=>by
   have ih:=splitC_le c l;unfold splitC at h
   split at h
   ·rcases List.mem_cons.1 h with rfl|h
    ·simp
    ·have:=ih x h;simp;omega
   ·split at h
    ·simp at h;subst h;simp
    ·rename_i y t hy
     rcases List.mem_cons.1 h with rfl|h
     ·have:=ih y (by rw[hy];simp);simp;omega
     ·have:=ih x (by rw[hy];simp[h]);simp;omega
theorem takeWhile_len(p:UInt8->Bool): ∀(l:Tx) (k:Nat),(∀(j:Nat) c,j<k->l[j]? =some c->p c=true)->(∀c,l[k]? =some c->p c=false)->k<=l.length->(l.takeWhile p).length=k
 |[],k,_,_,h=>by simp at h;subst h;rfl
 |b::l,0,_,h2,_=>by rw[List.takeWhile_cons,if_neg (by rw[h2 b rfl];simp)];rfl
 | b::l,k+1,h1,h2,h3=>by
   rw[List.takeWhile_cons,if_pos (h1 0 b (by omega) rfl),List.length_cons,takeWhile_len p l k (fun j c hj hc=>h1 (j+1) c (by omega) (by simpa using hc)) (fun c hc=>h2 c (by simpa using hc)) (by simpa using h3)]
theorem freshV{w w':World}{v0 v1 v2 v3 v4 v5 v6 v7:Value}{t:TypeId}(h:Below (w.alloc (.cells #[v0,v1,v2,v3,v4,v5,v6,v7] t)).heap.size (w.alloc (.cells #[v0,v1,v2,v3,v4,v5,v6,v7] t)) w'):
 (w'.cell? ⟨w.heap.size,0,none⟩=some v0/\w'.cell? ⟨w.heap.size,1,none⟩=some v1/\w'.cell? ⟨w.heap.size,2,none⟩=some v2/\w'.cell? ⟨w.heap.size,3,none⟩=some v3/\w'.cell? ⟨w.heap.size,4,none⟩=some v4/\w'.cell? ⟨w.heap.size,5,none⟩=some v5/\w'.cell? ⟨w.heap.size,6,none⟩=some v6/\w'.cell? ⟨w.heap.size,7,none⟩=some v7)/\
 (∀k,w'.frozen? ⟨w.heap.size,k,none⟩=false)/\w.heap.size<w'.heap.size/\Below w.heap.size w w':=by
 have hs:=h.size;simp at hs
 have hc: ∀k,w'.cell? ⟨w.heap.size,k,none⟩=(#[v0,v1,v2,v3,v4,v5,v6,v7]:Array Value)[k]? :=fun k=>by
  rw[h.cell (p:=⟨w.heap.size,k,none⟩) (by simp)];have hh:=heap_alloc_new w (.cells #[v0,v1,v2,v3,v4,v5,v6,v7] t);simp only[World.cell?,hh];simp
 refine⟨⟨hc 0,hc 1,hc 2,hc 3,hc 4,hc 5,hc 6,hc 7⟩,fun k=>?_,by omega,(al w _).trans (h.mono (al w _).size)⟩;rw[h.frozen (p:=⟨w.heap.size,k,none⟩) (by simp)];have hh:=heap_alloc_new w (.cells #[v0,v1,v2,v3,v4,v5,v6,v7] t);simp only[World.frozen?,hh];simp
def insO(r:Option Ins):Ins:=match r with
 |some i=>i
 |none=>ins0
def errO(r:Option Ins):Int:=match r with
 |some _=>0
 |none=>91
def RetP(r:Option Ins)(w:World)(e:Ending)(w':World):Prop:=e= .returned (.tuple #[vI (insO r),.int .i64 (errO r)])/\Below w.heap.size w w'
theorem RetP.no{w w':World}{e:Ending}{r:Option Ins}(hr:r=none)(h:e= .returned (.tuple #[.agg #[.int .i64 0,.int .i64 0,.int .i64 0,.int .i64 0,.int .i64 0,.string ⟨#[]⟩,.string ⟨#[]⟩,.int .i64 0],.int .i64 91]))(hb:Below w.heap.size w w'):RetP r w e w':=by
 subst hr h;exact⟨rfl,hb⟩
theorem RetP.yes{w w':World}{e:Ending}{r:Option Ins}{op d a b imm fence:Int}{label:Tx}(hr:r=some ⟨op,d,a,b,imm,[],label,fence⟩)(h:e= .returned (.tuple #[.agg #[.int .i64 op,.int .i64 d,.int .i64 a,.int .i64 b,.int .i64 imm,.string ⟨#[]⟩,.string (tx label),.int .i64 fence],.int .i64 0]))(hb:Below w.heap.size w w'):RetP r w e w':=by
 subst hr h;exact⟨rfl,hb⟩
theorem RetP.yes0{w w':World}{e:Ending}{r:Option Ins}{op d a b imm fence:Int}(hr:r=some ⟨op,d,a,b,imm,[],[],fence⟩)(h:e= .returned (.tuple #[.agg #[.int .i64 op,.int .i64 d,.int .i64 a,.int .i64 b,.int .i64 imm,.string ⟨#[]⟩,.string ⟨#[]⟩,.int .i64 fence],.int .i64 0]))(hb:Below w.heap.size w w'):RetP r w e w':=by
 subst hr h;exact⟨rfl,hb⟩
theorem progParse_long(s:Tx)(hl:262144<s.length)(w:World):Calls Tryz.prog 44 #[.string (tx s)] w (RetP (parseI s) w):=by
 obtain⟨r,hr⟩: ∃r,parseI s=r:=⟨_,rfl⟩;rw[hr];have HK:=hid (show r=none by rw[<-hr];unfold parseI;rw[if_pos hl]);obtain⟨n,hn⟩: ∃n,(tx s).size=n:=⟨_,rfl⟩;have hz:decide (262144<(n:Int))=true:=by rw[<-hn,tx_size];simp;omega
 clear hr hl;go_enter Tryz.func44,Tryz.ntmps44;go_wp2_with fail;exact bodyPost_ret (by simp[results,Tryz.results44,go_sem]) rfl (RetP.no HK.out rfl blA)
theorem progParse_tso(s:Tx)(hl:s.length<=262144)(ht:trimT s=[102,101,110,99,101,46,116,115,111])(w:World):Calls Tryz.prog 44 #[.string (tx s)] w (RetP (parseI s) w):=by
 obtain⟨r,hr⟩: ∃r,parseI s=r:=⟨_,rfl⟩;rw[hr];have HK:=hid (show r=some ⟨13,0,0,0,0,[],[],2⟩ by rw[<-hr];unfold parseI;rw[if_neg (by omega)];simp only[ht];rw[if_pos trivial]);obtain⟨n,hn⟩: ∃n,(tx s).size=n:=⟨_,rfl⟩;have hnl:n=s.length:=by rw[<-hn,tx_size]
 have hz:decide (262144<(n:Int))=false:=by simp;omega
 have TR:=hid (fun(w:World)=>progTrimmed s (by omega) w);rw[ht]at TR;have z:((tx [102,101,110,99,101,46,116,115,111]).toList==[102,101,110,99,101,46,116,115,111])=true:=by rw[tx_toList];rfl
 clear hr hl hnl ht;go_enter Tryz.func44,Tryz.ntmps44;go_wp2_with fail;refine(TR.out _).mono ?_;rintro e w1 ⟨rfl,E⟩;obtain⟨⟨d0,d1,d2,d3,d4,d5,d6,d7⟩,hf,hlt,B⟩:=fresh8 E;clear E;go_wp2_with fail;exact bodyPost_ret (by simp[results,Tryz.results44,go_sem,d0,d1,d2,d3,d4,d5,d6,d7]) rfl (RetP.yes0 HK.out rfl blA)
theorem progParse_label(s t:Tx)(hl:s.length<=262144)(ht:trimT s=t)(h1:t≠[102,101,110,99,101,46,116,115,111])(h2:t.getLast?=some 58)(w:World):Calls Tryz.prog 44 #[.string (tx s)] w (RetP (parseI s) w):=by
 obtain⟨r,hr⟩: ∃r,parseI s=r:=⟨_,rfl⟩;rw[hr];have HK:=hid (show r=if nameB (trimT t.dropLast)then some ⟨12,0,0,0,0,[],trimT t.dropLast,0⟩else none by rw[<-hr];unfold parseI;rw[if_neg (by omega)];simp only[ht];rw[if_neg h1,if_pos h2]);obtain⟨n,hn⟩: ∃n,(tx s).size=n:=⟨_,rfl⟩;have hnl:n=s.length:=by rw[<-hn,tx_size]
 have hz:decide (262144<(n:Int))=false:=by simp;omega
 have TR:=hid (fun(w:World)=>progTrimmed s (by omega) w);rw[ht]at TR;have htl:=trimT_length s;rw[ht]at htl;have z:((tx t).toList==[102,101,110,99,101,46,116,115,111])=false:=tx_ne _ _ h1;have hs2:=suffix_any t 58 (by omega);rw[show(t.getLast?==some 58)=true by rw[h2];rfl]at hs2;have SF:=hid hs2;obtain⟨m,hm⟩: ∃m,t.length=m:=⟨_,rfl⟩
 have hm1:1<=m:=by
  rcases Nat.eq_zero_or_pos m with h0|h0
  ·rw[h0]at hm;have:=List.eq_nil_of_length_eq_zero hm;rw[this]at h2;cases h2
  ·exact h0
 have htm:(tx t).size=m:=by rw[tx_size,hm]
 have sl: ∀w,(Instr.sliceAt 9 (.string (tx t)) none (some (.int .i64 ((m:Int)-1))) none).run Tryz.prog w= .ok (.string (tx t.dropLast)) w:=by
  have:=run_strto t (m-1) (by omega)
  rwa[show((m-1:Nat):Int)=(m:Int)-1 by omega,show t.take (m-1)=t.dropLast by rw[List.dropLast_eq_take,hm]]at this
 have T2:=hid (fun(w:World)=>progTrimmed t.dropLast (by simp;omega) w);have hll:=trimT_length t.dropLast;have hmb:m<=262144:=by omega
 rw[List.length_dropLast,hm]at hll;generalize t.dropLast=u at*;generalize trimT u=lb at*;have CK:=hid (fun(w:World)=>progCheck ⟨12,0,0,0,0,[],lb,0⟩ (by simp;omega) w);clear hr hl hnl ht hs2 h2 h1 hm htl
 by_cases hnm:nameB lb=true
 ·have hE:=errI_yes (i:=⟨12,0,0,0,0,[],lb,0⟩) (by rw[check_label];exact hnm)
  rw[if_pos hnm]at HK;rw[hE]at CK;clear hE hnm;go_enter Tryz.func44,Tryz.ntmps44;go_wp2_with fail;refine(TR.out _).mono ?_;rintro e w1 ⟨rfl,E⟩;go_wp2_with fail;refine(SF.out _).mono ?_;rintro e w2 ⟨rfl,rfl⟩;go_wp2_with fail;refine(T2.out _).mono ?_;rintro e w3 ⟨rfl,E3⟩;have E:=ext_trans E E3;go_wp2_with fail;refine(CK.out _).mono ?_;rintro e w4 ⟨rfl,E4⟩;obtain⟨⟨f0,f1,f2,f3,f4,f5,f6,f7⟩,hf2,hlt2,B2⟩:=freshV E4;have E:=ext_trans E B2;obtain⟨⟨d0,d1,d2,d3,d4,d5,d6,d7⟩,hf,hlt,B⟩:=fresh8 E;clear E E3 E4 B2;go_wp2_with fail;exact bodyPost_ret (by simp[results,Tryz.results44,go_sem,d0,d1,d2,d3,d4,d5,d6,d7]) rfl (RetP.yes HK.out rfl blA)
 ·have hE:=errI_no (i:=⟨12,0,0,0,0,[],lb,0⟩) (by rw[check_label];simpa using hnm)
  rw[if_neg hnm]at HK;rw[hE]at CK;clear hE hnm;go_enter Tryz.func44,Tryz.ntmps44;go_wp2_with fail;refine(TR.out _).mono ?_;rintro e w1 ⟨rfl,E⟩;go_wp2_with fail;refine(SF.out _).mono ?_;rintro e w2 ⟨rfl,rfl⟩;go_wp2_with fail;refine(T2.out _).mono ?_;rintro e w3 ⟨rfl,E3⟩;have E:=ext_trans E E3;go_wp2_with fail;refine(CK.out _).mono ?_;rintro e w4 ⟨rfl,E4⟩;obtain⟨⟨f0,f1,f2,f3,f4,f5,f6,f7⟩,hf2,hlt2,B2⟩:=freshV E4;have E:=ext_trans E B2;obtain⟨⟨d0,d1,d2,d3,d4,d5,d6,d7⟩,hf,hlt,B⟩:=fresh8 E;clear E E3 E4 B2;go_wp2_with fail;exact bodyPost_ret (by simp[results,Tryz.results44,go_sem,d0,d1,d2,d3,d4,d5,d6,d7]) rfl (RetP.no HK.out rfl blA)
attribute [local go_sem high] eqI neqI
theorem freshV_arrow{w w':World}{v0 v1 v2 v3 v4 v5 v6 v7:Value}{t:TypeId}{P:Prop}
 (k:Below (w.alloc (.cells #[v0,v1,v2,v3,v4,v5,v6,v7] t)).heap.size (w.alloc (.cells #[v0,v1,v2,v3,v4,v5,v6,v7] t)) w'->
  w'.cell? ⟨w.heap.size,0,none⟩=some v0->w'.cell? ⟨w.heap.size,1,none⟩=some v1->w'.cell? ⟨w.heap.size,2,none⟩=some v2->w'.cell? ⟨w.heap.size,3,none⟩=some v3->w'.cell? ⟨w.heap.size,4,none⟩=some v4->w'.cell? ⟨w.heap.size,5,none⟩=some v5->w'.cell? ⟨w.heap.size,6,none⟩=some v6->w'.cell? ⟨w.heap.size,7,none⟩=some v7->
  (∀k,w'.frozen? ⟨w.heap.size,k,none⟩=false)->w.heap.size<w'.heap.size->P):
 Below (w.alloc (.cells #[v0,v1,v2,v3,v4,v5,v6,v7] t)).heap.size (w.alloc (.cells #[v0,v1,v2,v3,v4,v5,v6,v7] t)) w'->P:=fun h=>by
 obtain⟨⟨c0,c1,c2,c3,c4,c5,c6,c7⟩,hf,hlt, -⟩:=freshV h;exact k h c0 c1 c2 c3 c4 c5 c6 c7 hf hlt
theorem freshV_drew{w w':World}{v0 v1 v2 v3 v4 v5 v6 v7:Value}{t:TypeId}{P:Prop}
 (k:Below (w.alloc (.cells #[v0,v1,v2,v3,v4,v5,v6,v7] t)).heap.size (w.alloc (.cells #[v0,v1,v2,v3,v4,v5,v6,v7] t)) w'->
  w'.cell? ⟨w.heap.size,0,none⟩=some v0->w'.cell? ⟨w.heap.size,1,none⟩=some v1->w'.cell? ⟨w.heap.size,2,none⟩=some v2->w'.cell? ⟨w.heap.size,3,none⟩=some v3->w'.cell? ⟨w.heap.size,4,none⟩=some v4->w'.cell? ⟨w.heap.size,5,none⟩=some v5->w'.cell? ⟨w.heap.size,6,none⟩=some v6->w'.cell? ⟨w.heap.size,7,none⟩=some v7->
  (∀k,w'.frozen? ⟨w.heap.size,k,none⟩=false)->w.heap.size<w'.heap.size->P):
 Below (w.alloc (.cells #[v0,v1,v2,v3,v4,v5,v6,v7] t)).drew.heap.size (w.alloc (.cells #[v0,v1,v2,v3,v4,v5,v6,v7] t)).drew w'->P:=fun h=>
 freshV_arrow k (ext_trans (below_drewN _ 1) h)
theorem BxI.of8{w:World}{b:Nat}{i:Ins}(hi:i.loc=[])(hlt:b<w.heap.size)(h0:w.cell? ⟨b,0,none⟩=some (.int .i64 i.op))(h1:w.cell? ⟨b,1,none⟩=some (.int .i64 i.d))(h2:w.cell? ⟨b,2,none⟩=some (.int .i64 i.a))(h3:w.cell? ⟨b,3,none⟩=some (.int .i64 i.b))(h4:w.cell? ⟨b,4,none⟩=some (.int .i64 i.imm))(h5:w.cell? ⟨b,5,none⟩=some (.string ⟨#[]⟩))(h6:w.cell? ⟨b,6,none⟩=some (.string (tx i.label)))(h7:w.cell? ⟨b,7,none⟩=some (.int .i64 i.fence)):BxI w b i:=by
 refine⟨hlt,fun k hk=>?_⟩
 match k,hk with
 |0,_=>exact h0
 |1,_=>exact h1
 |2,_=>exact h2
 |3,_=>exact h3
 |4,_=>exact h4
 |5,_=>rw[h5];show _=some (Value.string (tx i.loc));rw[hi];rfl
 |6,_=>exact h6
 |7,_=>exact h7
theorem progParse_op(s t:Tx)(hl:s.length<=262144)(ht:trimT s=t)(h1:t≠[102,101,110,99,101,46,116,115,111])(h2: ¬t.getLast?=some 58)(w:World)(g:Gl w):Calls Tryz.prog 44 #[.string (tx s)] w (RetP (parseI s) w):=by
 obtain⟨r,hr⟩: ∃r,parseI s=r:=⟨_,rfl⟩;rw[hr];have HK:=hid (show readI (t.takeWhile fun c=> !blankC c) ((splitC 44 (t.dropWhile fun c=> !blankC c)).map trimT)=r by rw[<-hr];unfold parseI;rw[if_neg (by omega)];simp only[ht];rw[if_neg h1,if_neg h2]);obtain⟨n,hn⟩: ∃n,(tx s).size=n:=⟨_,rfl⟩;have hnl:n=s.length:=by rw[<-hn,tx_size]
 have hz:decide (262144<(n:Int))=false:=by simp;omega
 have TR:=hid (fun(w:World)=>progTrimmed s (by omega) w);rw[ht]at TR;have htl:=trimT_length s;rw[ht]at htl;have z:((tx t).toList==[102,101,110,99,101,46,116,115,111])=false:=tx_ne _ _ h1;have hs2:=suffix_any t 58 (by omega);rw[show(t.getLast?==some 58)=false by simpa using h2]at hs2;have SF:=hid hs2;obtain⟨m,hm⟩: ∃m,t.length=m:=⟨_,rfl⟩;have htm:(tx t).size=m:=by rw[tx_size,hm]
 have hmb:m<=262144:=by omega
 have HM:=hid hm;have g0:=g.below (al w zeroI);clear hr hl hnl ht hs2 h2 h1 hm htl;go_enter Tryz.func44,Tryz.ntmps44;go_wp2_with fail;refine(TR.out _).mono ?_;rintro e w1 ⟨rfl,E⟩;have g1:=g0.below E;clear g0;go_wp2_with fail;refine(SF.out _).mono ?_;rintro e w2 ⟨rfl,rfl⟩;go_wp2_with fail
 go_loop [5] (fun i=> ∃k:Nat,k<=m/\i= .int .i64 k/\Hid (∀(j:Nat) (c:UInt8),j<k->t[j]? =some c->blankC c=false)) (fun i=>m-(intOf i).toNat)
 case atStart=>exact⟨0,by omega,rfl,fun j c hj=>absurd hj (Nat.not_lt_zero j)⟩
 case round=>
  obtain⟨k,hk,rfl,HB⟩:=hrel
  by_cases hend:k<m/\ ∃c,t[k]? =some c/\blankC c=false
  ·obtain⟨hlt,c,hc,hbc⟩:=hend
   have ix:=run_ix t k c hc
   have HB2:=hid (show ∀(j:Nat) (c:UInt8),j<k+1->t[j]? =some c->blankC c=false from fun j c' hj hc'=>by
    rcases Nat.lt_succ_iff_lt_or_eq.1 hj with h|h
    ·exact HB.out j c' h hc'
    ·subst h;rw[hc]at hc';cases hc';exact hbc)
   have HC:=hid hbc;clear hc hbc
   go_wp2_with (go_at_call 101;refine(progBlank c _).mono ?_;rintro e w' ⟨rfl,rfl⟩;rw[HC.out])
   go_round
   case rel=>exact⟨k+1,by omega,by go_num,HB2⟩
   case measure=>simp[intOf];omega
  ·have hlen:=takeWhile_len (fun c=> !blankC c) t k (fun j c hj hc=>by rw[HB.out j c hj hc];rfl) (fun c hc=>by
    have hlt:=(List.getElem?_eq_some_iff.1 hc).1;cases hb:blankC c with
    |true=>rfl
    |false=>exact absurd ⟨by have:=HM.out;omega,c,hc,hb⟩ hend) (by have:=HM.out;omega)
   have HK2:=HK.out;rw[takeWhile_take,dropWhile_drop',hlen]at HK2;have sl1:=run_strto t k (by have:=HM.out;omega);have sl2:=run_strfrom t k (by have:=HM.out;omega)
   have hsm:Sm (splitC 44 (t.drop k)):=fun x hx=>by
    have:=splitC_le 44 _ x hx;have:=HM.out;simp at *; omega
   have SP:=hid (fun(w:World) (g:Gl w)=>split_any (t.drop k) (by have:=HM.out;simp;omega) w g);have RD:=hid (fun(a:Option Addr) (c:Nat) (w:World) (h:Txs w a (splitC 44 (t.drop k))) (g:Gl w)=>progRead (t.take k) (splitC 44 (t.drop k)) a c w h hsm g);rw[HK2]at RD;clear hsm HK2 HK hlen;generalize splitC 44 (t.drop k)=ps at*;generalize t.drop k=t2 at*;generalize t.take k=t1 at*
   have hex:(k<m/\ ∃c,t[k]? =some c/\blankC c=true)\/k=m:=by
    by_cases hkm:k<m
    ·left
     obtain⟨c,hc⟩: ∃c,t[k]? =some c:=⟨_,List.getElem?_eq_getElem (by have:=HM.out;omega)⟩;refine⟨hkm,c,hc,?_⟩;cases hb:blankC c with
     |true=>rfl
     |false=>exact absurd ⟨hkm,c,hc,hb⟩ hend
    ·right;omega
   clear hend;rcases hex with⟨hlt,c,hc,hbc⟩|rfl
   ·have ix:=run_ix t k c hc
    have HC:=hid hbc;clear hc hbc
    go_wp2_with (go_at_call 101;refine(progBlank c _).mono ?_;rintro e w' ⟨rfl,rfl⟩;rw[HC.out])
    go_cut [6,7] (fun x y wx=> ∃(bb:Nat) (op d a1 b1 imm:Int) (label:Tx) (fence:Int) (ok:Bool),x= .pointer (some ⟨bb,0,none⟩)/\y= .bool ok/\Hid (keepI ⟨op,d,a1,b1,imm,[],label,fence⟩ ok=r)/\label.length<=1000000/\BxI wx bb ⟨op,d,a1,b1,imm,[],label,fence⟩/\Below (w.alloc zeroI).heap.size (w.alloc zeroI) wx)
    case first=>
     go_region_with (first|(go_at_call 79;refine(SP.out _ (g1.below blA)).mono ?_;rintro e' w' ⟨a2,rfl,tx2,E2⟩;have g2:=Gl.below (Gl.below g1 blA) E2;have E5:=ext_trans (a:=w1) blA E2;have s5:=E5.size)|(go_at_call 102;refine(RD.out _ _ _ (by first|exact tx2|exact tx2.below (al _ _)) (by first|exact g2|exact g2.below (al _ _))).mono ?_;rintro e' w' ⟨op,d,a1,b,imm,label,fence,ok,rfl,hk,hl,E3⟩;have E6:=ext_trans (a:=w1) (by first|exact E5|exact bel_alloc E5 _) E3;have s6:=E6.size;first|(revert E3;with_reducible refine freshV_arrow ?_;intro E3 f0 f1 f2 f3 f4 f5 f6 f7 hf2 hlt2)|(have E23:=ext_trans E2 E3;revert E23;with_reducible refine freshV_drew ?_;intro E23 f0 f1 f2 f3 f4 f5 f6 f7 hf2 hlt2)|skip))
     all_goals
      go_wp2_with fail
      go_meet
      refine⟨_,op,d,a1,b,imm,label,fence,ok,rfl,rfl,hk,hl,BxI.of8 rfl ?_ ?_ ?_ ?_ ?_ ?_ ?_ ?_ ?_,ext_trans E blA⟩
      all_goals go_simp
    case rest=>
     clear E;obtain⟨bb,op,d,a1,b1,imm,label,fence,ok,rfl,rfl,hkk,hl,bx,E⟩:=hcut;have CK:=hid (fun(w:World)=>progCheck ⟨op,d,a1,b1,imm,[],label,fence⟩ (by simp;omega) w);obtain⟨q0,q1,q2,q3,q4,q5,q6,q7⟩:=bx.cells;cases ok
     ·obtain⟨⟨d0,d1,d2,d3,d4,d5,d6,d7⟩,hf,hlt,B⟩:=fresh8 E
      have HN:=hid (show r=none from hkk.out.symm);clear E q0 q1 q2 q3 q4 q5 q6 q7 bx;go_wp2_with fail;exact bodyPost_ret (by simp[results,Tryz.results44,go_sem,d0,d1,d2,d3,d4,d5,d6,d7]) rfl (RetP.no HN.out rfl blA)
     ·cases hck:checkI ⟨op,d,a1,b1,imm,[],label,fence⟩
      ·have hE:=errI_no hck
       have HN:=hid (show r=none by rw[<-hkk.out];unfold keepI;rw[hck];rfl);rw[hE]at CK;clear hE hck;go_wp2_with fail;refine(CK.out _).mono ?_;rintro e w9 ⟨rfl,E4⟩;have E:=E.trans (E4.mono E.size);obtain⟨⟨d0,d1,d2,d3,d4,d5,d6,d7⟩,hf,hlt,B⟩:=fresh8 E;clear E E4 q0 q1 q2 q3 q4 q5 q6 q7 bx;go_wp2_with fail;exact bodyPost_ret (by simp[results,Tryz.results44,go_sem,d0,d1,d2,d3,d4,d5,d6,d7]) rfl (RetP.no HN.out rfl blA)
      ·have hE:=errI_yes hck
       have HN:=hid (show r=some ⟨op,d,a1,b1,imm,[],label,fence⟩ by rw[<-hkk.out];unfold keepI;rw[hck];rfl);rw[hE]at CK;clear hE hck;go_wp2_with fail;refine(CK.out _).mono ?_;rintro e w9 ⟨rfl,E4⟩;have E:=E.trans (E4.mono E.size);have bx:=bx.below E4;clear q0 q1 q2 q3 q4 q5 q6 q7;obtain⟨q0,q1,q2,q3,q4,q5',q6,q7⟩:=bx.cells;have q5:w9.cell? ⟨bb,5,none⟩=some (.string ⟨#[]⟩):=q5';clear q5';obtain⟨⟨d0,d1,d2,d3,d4,d5,d6,d7⟩,hf,hlt,B⟩:=fresh8 E;clear E E4 bx;go_wp2_with fail;exact bodyPost_ret (by simp[results,Tryz.results44,go_sem,d0,d1,d2,d3,d4,d5,d6,d7]) rfl (RetP.yes HN.out rfl blA)
   ·go_wp2_with fail
    go_cut [6,7] (fun x y wx=> ∃(bb:Nat) (op d a1 b1 imm:Int) (label:Tx) (fence:Int) (ok:Bool),x= .pointer (some ⟨bb,0,none⟩)/\y= .bool ok/\Hid (keepI ⟨op,d,a1,b1,imm,[],label,fence⟩ ok=r)/\label.length<=1000000/\BxI wx bb ⟨op,d,a1,b1,imm,[],label,fence⟩/\Below (w.alloc zeroI).heap.size (w.alloc zeroI) wx)
    case first=>
     go_region_with (first|(go_at_call 79;refine(SP.out _ (g1.below blA)).mono ?_;rintro e' w' ⟨a2,rfl,tx2,E2⟩;have g2:=Gl.below (Gl.below g1 blA) E2;have E5:=ext_trans (a:=w1) blA E2;have s5:=E5.size)|(go_at_call 102;refine(RD.out _ _ _ (by first|exact tx2|exact tx2.below (al _ _)) (by first|exact g2|exact g2.below (al _ _))).mono ?_;rintro e' w' ⟨op,d,a1,b,imm,label,fence,ok,rfl,hk,hl,E3⟩;have E6:=ext_trans (a:=w1) (by first|exact E5|exact bel_alloc E5 _) E3;have s6:=E6.size;first|(revert E3;with_reducible refine freshV_arrow ?_;intro E3 f0 f1 f2 f3 f4 f5 f6 f7 hf2 hlt2)|(have E23:=ext_trans E2 E3;revert E23;with_reducible refine freshV_drew ?_;intro E23 f0 f1 f2 f3 f4 f5 f6 f7 hf2 hlt2)|skip))
     all_goals
      go_wp2_with fail
      go_meet
      refine⟨_,op,d,a1,b,imm,label,fence,ok,rfl,rfl,hk,hl,BxI.of8 rfl ?_ ?_ ?_ ?_ ?_ ?_ ?_ ?_ ?_,ext_trans E blA⟩
      all_goals go_simp
    case rest=>
     clear E;obtain⟨bb,op,d,a1,b1,imm,label,fence,ok,rfl,rfl,hkk,hl,bx,E⟩:=hcut;have CK:=hid (fun(w:World)=>progCheck ⟨op,d,a1,b1,imm,[],label,fence⟩ (by simp;omega) w);obtain⟨q0,q1,q2,q3,q4,q5,q6,q7⟩:=bx.cells;cases ok
     ·obtain⟨⟨d0,d1,d2,d3,d4,d5,d6,d7⟩,hf,hlt,B⟩:=fresh8 E
      have HN:=hid (show r=none from hkk.out.symm);clear E q0 q1 q2 q3 q4 q5 q6 q7 bx;go_wp2_with fail;exact bodyPost_ret (by simp[results,Tryz.results44,go_sem,d0,d1,d2,d3,d4,d5,d6,d7]) rfl (RetP.no HN.out rfl blA)
     ·cases hck:checkI ⟨op,d,a1,b1,imm,[],label,fence⟩
      ·have hE:=errI_no hck
       have HN:=hid (show r=none by rw[<-hkk.out];unfold keepI;rw[hck];rfl);rw[hE]at CK;clear hE hck;go_wp2_with fail;refine(CK.out _).mono ?_;rintro e w9 ⟨rfl,E4⟩;have E:=E.trans (E4.mono E.size);obtain⟨⟨d0,d1,d2,d3,d4,d5,d6,d7⟩,hf,hlt,B⟩:=fresh8 E;clear E E4 q0 q1 q2 q3 q4 q5 q6 q7 bx;go_wp2_with fail;exact bodyPost_ret (by simp[results,Tryz.results44,go_sem,d0,d1,d2,d3,d4,d5,d6,d7]) rfl (RetP.no HN.out rfl blA)
      ·have hE:=errI_yes hck
       have HN:=hid (show r=some ⟨op,d,a1,b1,imm,[],label,fence⟩ by rw[<-hkk.out];unfold keepI;rw[hck];rfl);rw[hE]at CK;clear hE hck;go_wp2_with fail;refine(CK.out _).mono ?_;rintro e w9 ⟨rfl,E4⟩;have E:=E.trans (E4.mono E.size);have bx:=bx.below E4;clear q0 q1 q2 q3 q4 q5 q6 q7;obtain⟨q0,q1,q2,q3,q4,q5',q6,q7⟩:=bx.cells;have q5:w9.cell? ⟨bb,5,none⟩=some (.string ⟨#[]⟩):=q5';clear q5';obtain⟨⟨d0,d1,d2,d3,d4,d5,d6,d7⟩,hf,hlt,B⟩:=fresh8 E;clear E E4 bx;go_wp2_with fail;exact bodyPost_ret (by simp[results,Tryz.results44,go_sem,d0,d1,d2,d3,d4,d5,d6,d7]) rfl (RetP.yes HN.out rfl blA)
theorem progParse(s:Tx)(w:World)(g:Gl w):Calls Tryz.prog 44 #[.string (tx s)] w (RetP (parseI s) w):=by
 by_cases hl:s.length<=262144
 ·by_cases h1:trimT s=[102,101,110,99,101,46,116,115,111]
  ·exact progParse_tso s hl h1 w
  ·by_cases h2:(trimT s).getLast?=some 58
   ·exact progParse_label s _ hl rfl h1 h2 w
   ·exact progParse_op s _ hl rfl h1 h2 w g
 ·exact progParse_long s (by omega) w
end Go.Proofs.YtkbbgjloifmmbaaGreatDoor
