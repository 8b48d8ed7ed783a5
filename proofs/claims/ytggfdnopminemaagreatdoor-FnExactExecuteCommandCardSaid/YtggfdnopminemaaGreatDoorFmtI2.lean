/- Walks: the rule of a suffix, the joined word (program). -/
import Derived.Test.YtggfdnopminemaaGreatDoorZt
import Derived.Test.YtggfdnopminemaaGreatDoorSpellI2
namespace Go.Proofs.YtggfdnopminemaaGreatDoor
open Go Go.RowKit
set_option maxHeartbeats 4000000
set_option maxRecDepth 100000
theorem a7s (x y:Str) (w:World) (hx:x.length≤2^30) (hyl:y.length≤2^30) :
 Calls Tryz.prog 143 #[.string (S x),.string (S y)] w fun e w'=>e=.returned (.tuple #[.string (S (P.a1x x y).1),.bool (P.a1x x y).2])∧Below w.heap.size w w':=by
 have hj:P.a1x x y=(if P.isWord x&&P.isWord y then (if 24<(P.a3z x y).length then ([],false) else (P.a3z x y,true)) else ([],false)):=rfl
 have HYL:=qh (show P.isWord y=true→0<y.length from fun h=>by have:=P.b7b h;omega)
 have HJL:=qh (P.c2t x y)
 cases hqx:P.isWord x with
 |false=>
  have HJ:=qh (show P.a1x x y=([],false) by rw [hj,hqx];rfl);exact zq116
 |true=>
  cases hqy:P.isWord y with
  |false=>
   have HJ:=qh (show P.a1x x y=([],false) by rw [hj,hqx,hqy];rfl);exact zq116
  |true=>
   rw [hqx,hqy]at hj;have hy0:=HYL.o hqy
   have hjw:P.a3z x y=(match P.rule x y with
    |1=>x.take (x.length-1)++[105,101,115]
    |2=>x++[101,115]
    |3=>x.take (x.length-2)++[121,105,110,103]
    |4=>(x.take (x.length-1)++[105])++y
    |5=>x.take (x.length-1)++y
    |6=>(x++x.drop (x.length-1))++y
    |_=>x++y):=rfl
   have HJ:=qh hjw;have hle:=P.d0b x y;have HLN:=qh (P.c6k (w:=x) (x:=y));have H6:=qh (show P.rule x y=6→3≤x.length from P.c0k);have HJS:=qh (show P.a1x x y=if 24<(P.a3z x y).length then ([],false) else (P.a3z x y,true) from hj);clear hjw hj
   go_enter Tryz.func143,Tryz.ntmps143
   go_wp2_with (go_at_call 214;refine (c9v _ _ oZ).mono ?_;rintro e w' ⟨rfl,rfl⟩)
   refine (d3d x y _ hx hy0).mono ?_;rintro e w1 ⟨rfl,hb⟩;have HB:=qh hb;clear hb;obtain⟨r,hr⟩:∃r,P.rule x y=r:=⟨_,rfl⟩;rw [hr]at hle HJ HLN H6;rw [hr];clear hr;obtain rfl|rfl|rfl|rfl|rfl|rfl|rfl:r=0∨r=1∨r=2∨r=3∨r=4∨r=5∨r=6:=by omega
   ·go_upto_region 17 with fail
    have HV:=qh (show P.a3z x y=x++y by rw [HJ.o]<;>simp);rw [HV.o]at HJS;generalize x++y=z at *;exact zq9
   ·have hl:=HLN.o.1 rfl;have i1:(x.length:Int)-1=((x.length-1:Nat):Int):=by omega
    have i2:x.length-1≤x.length:=by omega
    go_upto_region 17 with fail
    have HV:=qh (show P.a3z x y=x.take (x.length-1)++[105,101,115] by rw [HJ.o]<;>simp);rw [HV.o]at HJS;generalize x.take (x.length-1)++[105,101,115]=z at *;exact zq9
   ·go_upto_region 17 with fail
    have HV:=qh (show P.a3z x y=x++[101,115] by rw [HJ.o]<;>simp);rw [HV.o]at HJS;generalize x++[101,115]=z at *;exact zq9
   ·have hl:=HLN.o.2.1 rfl;have i1:(x.length:Int)-2=((x.length-2:Nat):Int):=by omega
    have i2:x.length-2≤x.length:=by omega
    go_upto_region 17 with fail
    have HV:=qh (show P.a3z x y=x.take (x.length-2)++[121,105,110,103] by rw [HJ.o]<;>simp);rw [HV.o]at HJS;generalize x.take (x.length-2)++[121,105,110,103]=z at *;exact zq9
   ·have hl:=HLN.o.2.2.1 rfl;have i1:(x.length:Int)-1=((x.length-1:Nat):Int):=by omega
    have i2:x.length-1≤x.length:=by omega
    go_upto_region 17 with fail
    have HV:=qh (show P.a3z x y=x.take (x.length-1)++105::y by rw [HJ.o]<;>simp);rw [HV.o]at HJS;generalize x.take (x.length-1)++105::y=z at *;exact zq9
   ·have hl:=HLN.o.2.2.2 rfl;have i1:(x.length:Int)-1=((x.length-1:Nat):Int):=by omega
    have i2:x.length-1≤x.length:=by omega
    go_upto_region 17 with fail
    have HV:=qh (show P.a3z x y=x.take (x.length-1)++y by rw [HJ.o]<;>simp);rw [HV.o]at HJS;generalize x.take (x.length-1)++y=z at *;exact zq9
   ·have hl:=H6.o rfl;have i1:(x.length:Int)-1=((x.length-1:Nat):Int):=by omega
    have i2:x.length-1≤x.length:=by omega
    go_upto_region 17 with fail
    have HV:=qh (show P.a3z x y=x++(x.drop (x.length-1)++y) by rw [HJ.o]<;>simp);rw [HV.o]at HJS;generalize x++(x.drop (x.length-1)++y)=z at *;exact zq9
set_option maxHeartbeats 2000000
theorem a3c (s:Str) (w:World) (hs:s.length≤2^40) :
 Calls Tryz.prog 134 #[.string (S s)] w fun e w'=>e=.returned (.bool (s.all P.prn))∧w=w':=by
 go_enter Tryz.func134,Tryz.ntmps134
 go_wp2
 go_loop [3,6] (fun _ i=>∃k:Nat,k≤s.length∧i=.int .i64 k∧(s.take k).all P.prn=true) (fun _ i=>s.length-(intOf i).toNat)
 case atStart=>exact⟨0,by omega,rfl,by simp⟩
 case round=>
  obtain⟨k,hk,rfl,ha⟩:=hrel;have HA:=qh ha;clear ha
  by_cases hlt:k<s.length
  ·rcases Int.lt_or_le (s[k].toNat:Int) 32 with h1|h1
   ·have H:=qh h1;go_wp2;go_ret;exact⟨a0a (P.b1t hlt (P.d0x (.inl H.o))).symm,rfl⟩
   ·rcases Int.lt_or_le 126 (s[k].toNat:Int) with h2|h2
    ·have H:=qh h2;go_wp2;go_ret;exact⟨a0a (P.b1t hlt (P.d0x (.inr H.o))).symm,rfl⟩
    ·have HL:=qh (P.d2t h1 h2);go_wp2;exact d7r
  ·exact zq134
theorem b6m (b:UInt8) (h:b.toNat<128):Utf8.encode (b.toNat:Int)=S [b]:=by
 have hv:Utf8.valid (b.toNat:Int)=true:=by
  unfold Utf8.valid;simp;omega
 unfold Utf8.encode;rw [hv];simp only [if_true,Int.toNat_natCast];rw [if_pos oZ];simp [S]
theorem d3l (s:Str) (w:World) (hs:s.length≤2^40) :
 Calls Tryz.prog 365 #[.string (S s)] w fun e w'=>e=.returned (.string (S (P.upper s)))∧∃n,w'=w.drewN n:=by
 cases s with
 |nil=>
  go_enter Tryz.func365,Tryz.ntmps365
  go_wp2;go_ret;exact⟨rfl,0,rfl⟩
 |cons b t=>
  have hn:((b::t:Str)==[])=false:=rfl;have hsl:t.length+1≤2^40:=hs;have j1:(1:Int)≤(t.length:Int)+1:=by omega
  have j2:¬9223372036854775807<1+t.length:=by omega
  clear hs
  by_cases h1:97≤(b.toNat:Int)
  ·by_cases h2:(b.toNat:Int)≤122
   ·have hl:=P.b0w h1 h2;have HU:=qh (show P.upper (b::t)=[b-32]++t by rw [P.b9q hl];rfl);obtain⟨h3,_⟩:=d6q hl;have hE:=b6m (b-32) oZ;rw [h3]at hE
    have e1:IntKind.i32.wrap (IntKind.u8.wrap (IntKind.u8.wrap ((b.toNat:Int)-97)+65))=(b.toNat:Int)-32:=by
     simp only [IntKind.wrap_u8,IntKind.wrap_i32];omega
    clear hl h3
    go_enter Tryz.func365,Tryz.ntmps365
    go_upto_region 2 with fail
    go_quiet (fail)
    go_wp2;go_ret;exact⟨a1p HU.o.symm,_,rfl⟩
   ·have HU:=qh (show P.upper (b::t)=b::t by exact P.b3f (P.a4z (.inr oZ)))
    go_enter Tryz.func365,Tryz.ntmps365
    go_wp2;go_ret;exact⟨a1p HU.o.symm,0,rfl⟩
  ·have HU:=qh (show P.upper (b::t)=b::t by exact P.b3f (P.a4z (.inl oZ)))
   go_enter Tryz.func365,Tryz.ntmps365
   go_wp2;go_ret;exact⟨a1p HU.o.symm,0,rfl⟩
theorem d7f (s:Str) (w:World) (hs:s.length≤2^40) :
 Calls Tryz.prog 375 #[.string (S s)] w fun e w'=>e=.returned (.string (S (P.a1o s)))∧∃n,w'=w.drewN n:=by
 cases s with
 |nil=>
  go_enter Tryz.func375,Tryz.ntmps375
  go_wp2;go_ret;exact⟨rfl,0,rfl⟩
 |cons b t=>
  have hn:((b::t:Str)==[])=false:=rfl;have hsl:t.length+1≤2^40:=hs;have j1:(1:Int)≤(t.length:Int)+1:=by omega
  have j2:¬9223372036854775807<1+t.length:=by omega
  clear hs
  by_cases h1:65≤(b.toNat:Int)
  ·by_cases h2:(b.toNat:Int)≤90
   ·have hl:=P.c9n h1 h2;have HU:=qh (show P.a1o (b::t)=[b+32]++t by rw [P.b3o hl];rfl);obtain⟨h3,_⟩:=d6y hl;have hE:=b6m (b+32) oZ;rw [h3]at hE
    have e1:IntKind.i32.wrap (IntKind.u8.wrap (IntKind.u8.wrap ((b.toNat:Int)-65)+97))=(b.toNat:Int)+32:=by
     simp only [IntKind.wrap_u8,IntKind.wrap_i32];omega
    clear hl h3
    go_enter Tryz.func375,Tryz.ntmps375
    go_upto_region 2 with fail
    go_quiet (fail)
    go_wp2;go_ret;exact⟨a1p HU.o.symm,_,rfl⟩
   ·have HU:=qh (show P.a1o (b::t)=b::t by exact P.a8o (P.c5i (.inr oZ)))
    go_enter Tryz.func375,Tryz.ntmps375
    go_wp2;go_ret;exact⟨a1p HU.o.symm,0,rfl⟩
  ·have HU:=qh (show P.a1o (b::t)=b::t by exact P.a8o (P.c5i (.inl oZ)))
   go_enter Tryz.func375,Tryz.ntmps375
   go_wp2;go_ret;exact⟨a1p HU.o.symm,0,rfl⟩
def a5a (b:Nat) (s:P.St) (w:World) (e:Ending) (w':World):Prop:=e=.returned (.tuple #[])∧a0t b s w'∧Chg (fun x=>x=b) w w'
set_option maxHeartbeats 4000000
def StC (b:Nat) (s:P.St) (w v:World):Prop:=a0t b s v∧Chg (fun x=>x=b) w v
theorem StC.text {b:Nat} {s:P.St} {w v:World} (h:StC b s w v) (t:Str):StC b { s with text:=t } w (v.setCell ⟨b,0,none⟩ (.string (S t))):=⟨h.1.text t,h.2.put _⟩
theorem StC.a0w {b:Nat} {s:P.St} {w v:World} (h:StC b s w v) (x:Bool):StC b { s with a0w:=x } w (v.setCell ⟨b,1,none⟩ (.bool x)):=⟨h.1.a0w x,h.2.put _⟩
theorem StC.a3p {b:Nat} {s:P.St} {w v:World} (h:StC b s w v) (x:Bool):StC b { s with a3p:=x } w (v.setCell ⟨b,2,none⟩ (.bool x)):=⟨h.1.a3p x,h.2.put _⟩
theorem StC.cap {b:Nat} {s:P.St} {w v:World} (h:StC b s w v) (x:Int):StC b { s with cap:=x } w (v.setCell ⟨b,3,none⟩ (.int .i64 x)):=⟨h.1.cap x,h.2.put _⟩
theorem StC.word {b:Nat} {s:P.St} {w v:World} (h:StC b s w v) (x:Nat):StC b { s with word:=x } w (v.setCell ⟨b,4,none⟩ (.int .i64 (x:Int))):=⟨h.1.word x,h.2.put _⟩
theorem StC.below {b:Nat} {s:P.St} {w v v':World} (h:StC b s w v) (hb:Below v.heap.size v v'):StC b s w v':=⟨h.1.below hb,h.2.trans (Below.chg hb _)⟩
theorem StC.drewN {b:Nat} {s:P.St} {w v:World} (h:StC b s w v) (n:Nat):StC b s w (v.drewN n):=h.below (below_drewN bZ n)
theorem d6g (b:Nat) (s:P.St) (t:Str) (w:World) (hb:a0t b s w) (hc:0≤s.cap∧s.cap≤2) (hl:s.text.length≤2^30) (ht:t.length≤2^30) :
 Calls Tryz.prog 362 #[.pointer (some ⟨b,0,none⟩),.string (S t)] w (a5a b (P.put s t) w):=by
 obtain⟨tx,jn,gl,cp,wd⟩:=s
 simp only at hc hl
 have H0:=qh (show StC b ⟨tx,jn,gl,cp,wd⟩ w w from⟨hb,Chg.refl _ _⟩)
 have h3:cp=0∨cp=1∨cp=2:=by omega
 have hul:=P.a7y t
 have hll:=P.b3w t
 have j1:¬9223372036854775807<tx.length+1+t.length:=by omega
 have j2:¬9223372036854775807<tx.length+t.length:=by omega
 have j3:¬9223372036854775807<tx.length+1+(P.upper t).length:=by omega
 have j4:¬9223372036854775807<tx.length+(P.upper t).length:=by omega
 have j5:¬9223372036854775807<tx.length+1+(P.a1o t).length:=by omega
 have j6:¬9223372036854775807<tx.length+(P.a1o t).length:=by omega
 have j7:¬9223372036854775807<tx.length+1:=by omega
 have HTL:=qh (show t.length≤2^40 by omega)
 clear hul hll hc hb
 cases jn
 ·skip;obtain⟨⟨a0,a1,a2,a3,a4⟩,⟨f0,f1,f2,f3,f4⟩,hlt⟩:=H0.o.1;simp only at a0 a1 a2 a3 a4
  go_enter Tryz.func362,Tryz.ntmps362
  go_upto_region 2 with fail
  have H1:=qh (show StC b ⟨tx++[32],false,gl,cp,wd⟩ w (w.setCell ⟨b,0,none⟩ (.string (S (tx++[32])))) from H0.o.text (tx++[32]));clear H0;clear a0 a1 a2 a3 a4 f0 f1 f2 f3 f4 hlt;generalize (World.setCell _ _ _)=v1 at *;obtain⟨⟨a0,a1,a2,a3,a4⟩,⟨f0,f1,f2,f3,f4⟩,hlt⟩:=H1.o.1;simp only at a0 a1 a2 a3 a4
  go_upto_region 3 with fail
  have H2:=qh (show StC b ⟨tx++[32],false,gl,cp,tx.length+1⟩ w (v1.setCell ⟨b,4,none⟩ (.int .i64 ((tx.length:Int)+1))) from H1.o.word (tx.length+1));clear H1;clear a0 a1 a2 a3 a4 f0 f1 f2 f3 f4 hlt;generalize (World.setCell _ _ _)=v2 at *;obtain⟨⟨a0,a1,a2,a3,a4⟩,⟨f0,f1,f2,f3,f4⟩,hlt⟩:=H2.o.1;simp only at a0 a1 a2 a3 a4
  rcases h3 with rfl|rfl|rfl
  ·skip
   go_upto_region 9 with fail
   have H4:=qh (show StC b ⟨tx++32::t,false,gl,0,tx.length+1⟩ w (v2.setCell ⟨b,0,none⟩ (.string (S (tx++32::t)))) from H2.o.text (tx++32::t));clear H2;clear a0 a1 a2 a3 a4 f0 f1 f2 f3 f4 hlt;generalize (World.setCell _ _ _)=v4 at *;obtain⟨⟨a0,a1,a2,a3,a4⟩,⟨f0,f1,f2,f3,f4⟩,hlt⟩:=H4.o.1;simp only at a0 a1 a2 a3 a4;go_wp2
   first|go_end0|(refine bodyPost_ret (results_none rfl _ _ _) rfl ?_)
   have H5:=H4.o.cap 0;refine⟨rfl,?_,H5.2⟩;have he:P.put ⟨tx,false,gl,0,wd⟩ t=⟨(tx++[32])++t,false,gl,0,(tx++[32]).length⟩:=rfl;rw [he];have h6:=H5.1
   simpa using h6
  ·skip
   go_upto_region 8 with (go_at_call 365;refine (d3l _ _ HTL.o).mono ?_;rintro e w' ⟨rfl,n,rfl⟩)
   have H3:=qh (show StC b ⟨tx++[32],false,gl,1,tx.length+1⟩ w (v2.drewN n) from H2.o.drewN n);clear H2;clear a0 a1 a2 a3 a4 f0 f1 f2 f3 f4 hlt;generalize (World.drewN _ _)=v3 at *;obtain⟨⟨a0,a1,a2,a3,a4⟩,⟨f0,f1,f2,f3,f4⟩,hlt⟩:=H3.o.1;simp only at a0 a1 a2 a3 a4
   go_upto_region 9 with fail
   have H4:=qh (show StC b ⟨tx++32::P.upper t,false,gl,1,tx.length+1⟩ w (v3.setCell ⟨b,0,none⟩ (.string (S (tx++32::P.upper t)))) from H3.o.text (tx++32::P.upper t));clear H3;clear a0 a1 a2 a3 a4 f0 f1 f2 f3 f4 hlt;generalize (World.setCell _ _ _)=v4 at *;obtain⟨⟨a0,a1,a2,a3,a4⟩,⟨f0,f1,f2,f3,f4⟩,hlt⟩:=H4.o.1;simp only at a0 a1 a2 a3 a4;go_wp2
   first|go_end0|(refine bodyPost_ret (results_none rfl _ _ _) rfl ?_)
   have H5:=H4.o.cap 0;refine⟨rfl,?_,H5.2⟩;have he:P.put ⟨tx,false,gl,1,wd⟩ t=⟨(tx++[32])++P.upper t,false,gl,0,(tx++[32]).length⟩:=rfl;rw [he];have h6:=H5.1
   simpa using h6
  ·skip
   go_upto_region 8 with (go_at_call 375;refine (d7f _ _ HTL.o).mono ?_;rintro e w' ⟨rfl,n,rfl⟩)
   have H3:=qh (show StC b ⟨tx++[32],false,gl,2,tx.length+1⟩ w (v2.drewN n) from H2.o.drewN n);clear H2;clear a0 a1 a2 a3 a4 f0 f1 f2 f3 f4 hlt;generalize (World.drewN _ _)=v3 at *;obtain⟨⟨a0,a1,a2,a3,a4⟩,⟨f0,f1,f2,f3,f4⟩,hlt⟩:=H3.o.1;simp only at a0 a1 a2 a3 a4
   go_upto_region 9 with fail
   have H4:=qh (show StC b ⟨tx++32::P.a1o t,false,gl,2,tx.length+1⟩ w (v3.setCell ⟨b,0,none⟩ (.string (S (tx++32::P.a1o t)))) from H3.o.text (tx++32::P.a1o t));clear H3;clear a0 a1 a2 a3 a4 f0 f1 f2 f3 f4 hlt;generalize (World.setCell _ _ _)=v4 at *;obtain⟨⟨a0,a1,a2,a3,a4⟩,⟨f0,f1,f2,f3,f4⟩,hlt⟩:=H4.o.1;simp only at a0 a1 a2 a3 a4;go_wp2
   first|go_end0|(refine bodyPost_ret (results_none rfl _ _ _) rfl ?_)
   have H5:=H4.o.cap 0;refine⟨rfl,?_,H5.2⟩;have he:P.put ⟨tx,false,gl,2,wd⟩ t=⟨(tx++[32])++P.a1o t,false,gl,0,(tx++[32]).length⟩:=rfl;rw [he];have h6:=H5.1
   simpa using h6
 ·skip;obtain⟨⟨a0,a1,a2,a3,a4⟩,⟨f0,f1,f2,f3,f4⟩,hlt⟩:=H0.o.1;simp only at a0 a1 a2 a3 a4
  go_enter Tryz.func362,Tryz.ntmps362
  go_upto_region 3 with fail
  have H2:=qh (show StC b ⟨tx,true,gl,cp,tx.length⟩ w (w.setCell ⟨b,4,none⟩ (.int .i64 (tx.length:Int))) from H0.o.word (tx.length));clear H0;clear a0 a1 a2 a3 a4 f0 f1 f2 f3 f4 hlt;generalize (World.setCell _ _ _)=v2 at *;obtain⟨⟨a0,a1,a2,a3,a4⟩,⟨f0,f1,f2,f3,f4⟩,hlt⟩:=H2.o.1;simp only at a0 a1 a2 a3 a4
  rcases h3 with rfl|rfl|rfl
  ·skip
   go_upto_region 9 with fail
   have H4:=qh (show StC b ⟨(tx)++t,true,gl,0,tx.length⟩ w (v2.setCell ⟨b,0,none⟩ (.string (S ((tx)++t)))) from H2.o.text ((tx)++t));clear H2;clear a0 a1 a2 a3 a4 f0 f1 f2 f3 f4 hlt;generalize (World.setCell _ _ _)=v4 at *;obtain⟨⟨a0,a1,a2,a3,a4⟩,⟨f0,f1,f2,f3,f4⟩,hlt⟩:=H4.o.1;simp only at a0 a1 a2 a3 a4;go_wp2
   first|go_end0|(refine bodyPost_ret (results_none rfl _ _ _) rfl ?_)
   have H5:=H4.o.cap 0;refine⟨rfl,?_,H5.2⟩;have he:P.put ⟨tx,true,gl,0,wd⟩ t=⟨(tx)++t,true,gl,0,(tx).length⟩:=rfl;rw [he];have h6:=H5.1
   simpa using h6
  ·skip
   go_upto_region 8 with (go_at_call 365;refine (d3l _ _ HTL.o).mono ?_;rintro e w' ⟨rfl,n,rfl⟩)
   have H3:=qh (show StC b ⟨tx,true,gl,1,tx.length⟩ w (v2.drewN n) from H2.o.drewN n);clear H2;clear a0 a1 a2 a3 a4 f0 f1 f2 f3 f4 hlt;generalize (World.drewN _ _)=v3 at *;obtain⟨⟨a0,a1,a2,a3,a4⟩,⟨f0,f1,f2,f3,f4⟩,hlt⟩:=H3.o.1;simp only at a0 a1 a2 a3 a4
   go_upto_region 9 with fail
   have H4:=qh (show StC b ⟨(tx)++P.upper t,true,gl,1,tx.length⟩ w (v3.setCell ⟨b,0,none⟩ (.string (S ((tx)++P.upper t)))) from H3.o.text ((tx)++P.upper t));clear H3;clear a0 a1 a2 a3 a4 f0 f1 f2 f3 f4 hlt;generalize (World.setCell _ _ _)=v4 at *;obtain⟨⟨a0,a1,a2,a3,a4⟩,⟨f0,f1,f2,f3,f4⟩,hlt⟩:=H4.o.1;simp only at a0 a1 a2 a3 a4;go_wp2
   first|go_end0|(refine bodyPost_ret (results_none rfl _ _ _) rfl ?_)
   have H5:=H4.o.cap 0;refine⟨rfl,?_,H5.2⟩;have he:P.put ⟨tx,true,gl,1,wd⟩ t=⟨(tx)++P.upper t,true,gl,0,(tx).length⟩:=rfl;rw [he];have h6:=H5.1
   simpa using h6
  ·skip
   go_upto_region 8 with (go_at_call 375;refine (d7f _ _ HTL.o).mono ?_;rintro e w' ⟨rfl,n,rfl⟩)
   have H3:=qh (show StC b ⟨tx,true,gl,2,tx.length⟩ w (v2.drewN n) from H2.o.drewN n);clear H2;clear a0 a1 a2 a3 a4 f0 f1 f2 f3 f4 hlt;generalize (World.drewN _ _)=v3 at *;obtain⟨⟨a0,a1,a2,a3,a4⟩,⟨f0,f1,f2,f3,f4⟩,hlt⟩:=H3.o.1;simp only at a0 a1 a2 a3 a4
   go_upto_region 9 with fail
   have H4:=qh (show StC b ⟨(tx)++P.a1o t,true,gl,2,tx.length⟩ w (v3.setCell ⟨b,0,none⟩ (.string (S ((tx)++P.a1o t)))) from H3.o.text ((tx)++P.a1o t));clear H3;clear a0 a1 a2 a3 a4 f0 f1 f2 f3 f4 hlt;generalize (World.setCell _ _ _)=v4 at *;obtain⟨⟨a0,a1,a2,a3,a4⟩,⟨f0,f1,f2,f3,f4⟩,hlt⟩:=H4.o.1;simp only at a0 a1 a2 a3 a4;go_wp2
   first|go_end0|(refine bodyPost_ret (results_none rfl _ _ _) rfl ?_)
   have H5:=H4.o.cap 0;refine⟨rfl,?_,H5.2⟩;have he:P.put ⟨tx,true,gl,2,wd⟩ t=⟨(tx)++P.a1o t,true,gl,0,(tx).length⟩:=rfl;rw [he];have h6:=H5.1
   simpa using h6
theorem stGlue (b:Nat) (s:P.St) (t:Str) (w:World) (hb:a0t b s w) (hc:0≤s.cap∧s.cap≤2) (hl:s.text.length≤2^30) (ht:t.length≤2^30) :
 Calls Tryz.prog 363 #[.pointer (some ⟨b,0,none⟩),.string (S t)] w (a5a b (P.a2l s t) w):=by
 obtain⟨tx,jn,gl,cp,wd⟩:=s
 simp only at hc hl
 have HB:=qh hb
 obtain⟨⟨a0,a1,a2,a3,a4⟩,⟨f0,f1,f2,f3,f4⟩,hlt⟩:=hb
 simp only at a0 a1 a2 a3 a4
 cases gl
 ·go_enter Tryz.func363,Tryz.ntmps363
  go_wp2_with fail
  refine (d6g b ⟨tx,jn,false,cp,wd⟩ t _ HB.o hc hl ht).mono ?_;rintro e w1 ⟨rfl,hb1,hc1⟩;have HB1:=qh hb1;have HC1:=qh hc1;obtain⟨⟨_,_,c2,_,_⟩,_,hl1⟩:=hb1;clear hc1 a0 a1 a2 a3 a4 f0 f1 f2 f3 f4;have c2':w1.cell? ⟨b,2,none⟩=some (.bool false):=c2;clear c2;go_wp2
  first|go_end0|(refine bodyPost_ret (results_none rfl _ _ _) rfl ?_)
  exact⟨rfl,HB1.o,HC1.o⟩
 ·have HB0:=qh (HB.o.a0w true)
  go_enter Tryz.func363,Tryz.ntmps363
  go_wp2_with fail
  refine (d6g b ⟨tx,true,true,cp,wd⟩ t _ HB0.o hc hl ht).mono ?_;rintro e w1 ⟨rfl,hb1,hc1⟩;have HB1:=qh hb1;have HC1:=qh ((Chg.put (Chg.refl _ w) (.bool true)).trans hc1);obtain⟨⟨_,_,c2,_,c4⟩,⟨_,_,_,_,g4⟩,hl1⟩:=hb1;clear hc1 a0 a1 a2 a3 a4 f0 f1 f2 f3 f4;have c2':w1.cell? ⟨b,2,none⟩=some (.bool true):=c2;clear c2;go_wp2
  first|go_end0|(refine bodyPost_ret (results_none rfl _ _ _) rfl ?_)
  exact⟨rfl,HB1.o.word wd,HC1.o.put _⟩
end Go.Proofs.YtggfdnopminemaaGreatDoor
