/- Walks: screens and edits checked, edits applied (program). -/
import Derived.Test.YtggfdnopminemaaGreatDoorZt
import Derived.Test.YtggfdnopminemaaGreatDoorShelfB
set_option linter.all false
namespace Go.Proofs.YtggfdnopminemaaGreatDoor
open Go Go.RowKit
set_option maxHeartbeats 8000000
set_option maxRecDepth 100000
theorem c2c (s:Str) (w:World) (hs:s.length≤2^40) :
 Calls Tryz.prog 83 #[.string (S s)] w fun e w'=>e=.returned (.bool (P.a1s s))∧w=w':=by
 have HP:=qh (show P.a1s s=(decide ((s.length:Int)≤2000)&&s.all P.prn) from rfl)
 go_enter Tryz.func83,Tryz.ntmps83
 by_cases h:(s.length:Int)≤2000
 ·rw [decide_eq_true h,Bool.true_and]at HP
  go_wp2_with fail
  refine (a2w s _ hs).mono ?_;rintro e w' ⟨rfl,rfl⟩;generalize s.all P.prn=q at *;go_wp2;go_ret;exact⟨by rw [HP.o];rfl,rfl⟩
 ·rw [decide_eq_false h,Bool.false_and]at HP;go_wp2;go_ret;exact⟨by rw [HP.o];rfl,rfl⟩
theorem b2y (x:Int) (t:Str) (w:World) (hs:t.length≤2^40) :
 Calls Tryz.prog 84 #[.agg #[.int .i64 x,.string (S t)]] w fun e w'=>e=.returned (.bool (P.a3d (x,t)))∧Below w.heap.size w w':=by
 have HB:=qh ((Below.refl w.heap.size w).alloc lZ (.cells #[.int .i64 x,.string (S t)] 55))
 have HP:=qh (show P.a3d (x,t)=(decide (0≤x∧x≤2000)&&P.a1s t) from rfl)
 go_enter Tryz.func84,Tryz.ntmps84
 go_wp2_with fail
 refine (a1k _ _ _ _).mono ?_
 rintro e w1 ⟨rfl,rfl⟩
 obtain⟨q,hq⟩:∃q,decide (0≤x∧x≤2000)=q:=⟨_,rfl⟩
 rw [hq]at HP⊢
 clear hq
 cases q
 ·go_wp2;go_ret;exact⟨by rw [HP.o];rfl,HB.o⟩
 ·go_wp2_with fail
  refine (c2c t _ hs).mono ?_;rintro e w2 ⟨rfl,rfl⟩;rw [Bool.true_and]at HP;generalize P.a1s t=q at *;go_wp2;go_ret;exact⟨by rw [HP.o];rfl,HB.o⟩
theorem c5k (s:Str) (x:Int) (t:Str) (w:World) (hs:s.length≤2^30) (ht:t.length≤2^30) :
 Calls Tryz.prog 25 #[.string (S s),.agg #[.int .i64 x,.string (S t)]] w (b0h (P.b2v s (x,t)) w):=by
 have hb0:=(Below.refl w.heap.size w).alloc lZ (.cells #[.int .i64 x,.string (S t)] 55)
 have HB:=qh hb0
 have HX:=qh (show w.heap.size<(w.alloc (.cells #[.int .i64 x,.string (S t)] 55)).heap.size∧(w.alloc (.cells #[.int .i64 x,.string (S t)] 55)).cell? ⟨w.heap.size,0,none⟩=some (.int .i64 x)∧(w.alloc (.cells #[.int .i64 x,.string (S t)] 55)).cell? ⟨w.heap.size,1,none⟩=some (.string (S t)) from⟨by simp,by go_simp,by go_simp⟩)
 clear hb0
 go_enter Tryz.func25,Tryz.ntmps25
 go_wp2_with fail
 generalize (World.alloc _ _)=W at *
 refine (c2c s _ oZ).mono ?_
 rintro e w1 ⟨rfl,rfl⟩
 have HP:=qh (show P.b2v s (x,t)=(if P.a1s s&&(P.a3d (x,t)&&decide (x≤(s.length:Int))) then (if 2000<(s.take (s.length-x.toNat)++t).length then ([],false) else (s.take (s.length-x.toNat)++t,true)) else ([],false)) from rfl)
 generalize P.a1s s=q at *
 obtain⟨_,k0,k1⟩:=HX.o
 cases q
 ·go_wp2;go_ret2;exact⟨by rw [HP.o];rfl,HB.o⟩
 ·go_wp2_with fail
  refine (b2y x t _ oZ).mono ?_;rintro e w2 ⟨rfl,hb⟩;have HB2:=bt HB hb;have h0:=hb.cell (p:=⟨w.heap.size,0,none⟩) HX.o.1;have h1:=hb.cell (p:=⟨w.heap.size,1,none⟩) HX.o.1;rw [k0]at h0;rw [k1]at h1;have HE:=qh (show P.a3d (x,t)=true→0≤x∧x≤2000 from fun h=>by unfold P.a3d at h;simp only [Bool.and_eq_true,decide_eq_true_eq]at h;exact h.1);generalize P.a3d (x,t)=q at *;clear hb k0 k1 HX HB
  cases q
  ·go_wp2;go_ret2;exact⟨by rw [HP.o];rfl,HB2.o⟩
  ·obtain⟨x0,_⟩:=HE.o rfl;obtain⟨n,rfl⟩:=Int.eq_ofNat_of_zero_le x0
   by_cases hx:n≤s.length
   ·have i1:¬(s.length:Int)<(n:Int):=by omega
    obtain⟨m,hm⟩:∃m,m+n=s.length:=⟨s.length-n,by omega⟩;have i2:(s.length:Int)-(n:Int)=(m:Int):=by omega
    have i3:m≤s.length:=by omega
    have hlen:(s.take m).length=m:=by rw [List.length_take];omega
    have HV:=qh (show s.take (s.length-(n:Int).toNat)=s.take m by congr 1;omega);rw [HV.o]at HP;have HD:=qh (show decide ((n:Int)≤(s.length:Int))=true from decide_eq_true oZ);have i4:((s.take m++t).length:Int)=(m:Int)+(t.length:Int):=by rw [List.length_append,hlen];omega
    by_cases h2:2000<(s.take m++t).length
    ·have i5:(2000:Int)<(m:Int)+(t.length:Int):=by omega
     go_wp2_with fail
     go_quiet (fail)
     go_wp2;go_ret2;exact⟨by rw [HP.o,if_pos h2,HD.o];rfl,by first|exact HB2.o|exact below_drewN HB2.o _⟩
    ·have i5:¬(2000:Int)<(m:Int)+(t.length:Int):=by omega
     go_wp2_with fail
     go_quiet (fail)
     go_wp2;go_ret2;exact⟨by rw [HP.o,if_neg h2,HD.o];rfl,by first|exact HB2.o|exact below_drewN HB2.o _⟩
   ·have i1:(s.length:Int)<(n:Int):=by omega
    go_wp2;go_ret2;exact⟨by rw [HP.o,decide_eq_false oZ];rfl,HB2.o⟩
theorem P.a6u {e:P.Edit} (h:P.a3d e=true):0≤e.1∧e.1≤2000∧P.a1s e.2=true:=by
 unfold P.a3d at h;simp only [Bool.and_eq_true,decide_eq_true_eq]at h;exact⟨h.1.1,h.1.2,h.2⟩
theorem b2e (n:Int) (w:World) (h0:0≤n) (h1:n≤999999) (hE:L.Env w) :
 Calls Tryz.prog 153 #[.int .i64 n] w (b0h (P.num n.toNat,true) w):=by
 go_enter Tryz.func153,Tryz.ntmps153
 go_wp2_with fail
 refine (a1k _ _ _ _).mono ?_
 rintro e w1 ⟨rfl,rfl⟩
 rw [decide_eq_true oZ]
 go_wp2_with fail
 refine (L.a4s n _ oZ oZ hE).mono ?_
 rintro e w1 ⟨rfl,hb⟩
 have HB:=qh hb
 clear hb
 go_wp2
 go_ret2
 exact⟨rfl,HB.o⟩
theorem a2f (x:Int) (t:Str) (w:World) (he:P.a3d (x,t)=true) (hE:L.Env w) :
 Calls Tryz.prog 82 #[a2j (x,t)] w (b0h (P.fmtE (x,t),true) w):=by
 obtain⟨h0,h1,h2⟩:=P.a6u he
 simp only at h0 h1 h2
 have htl:=P.a2m h2
 have HOK:=qh he
 have hb0:=(Below.refl w.heap.size w).alloc lZ (.cells #[.int .i64 x,.string (S t)] 55)
 have HX:=qh (show w.heap.size<(w.alloc (.cells #[.int .i64 x,.string (S t)] 55)).heap.size∧(w.alloc (.cells #[.int .i64 x,.string (S t)] 55)).cell? ⟨w.heap.size,0,none⟩=some (.int .i64 x)∧(w.alloc (.cells #[.int .i64 x,.string (S t)] 55)).cell? ⟨w.heap.size,1,none⟩=some (.string (S t)) from⟨by simp,by go_simp,by go_simp⟩)
 have HE:=qh (hE.below hb0 hE.size);have HB:=qh hb0
 clear hb0 hE he h2
 unfold a2j
 go_enter Tryz.func82,Tryz.ntmps82
 go_upto_region 1 with fail
 generalize (World.alloc _ _)=v0 at *
 obtain⟨_,c0,c1⟩:=HX.o
 go_wp2_with fail
 refine (b2y x t _ oZ).mono ?_
 rintro e w1 ⟨rfl,hb⟩
 have hzb:=HX.o.1
 have d0:=(hb.cell (p:=⟨w.heap.size,0,none⟩) hzb).trans c0;have d1:=(hb.cell (p:=⟨w.heap.size,1,none⟩) hzb).trans c1
 have HX1:=qh (show w.heap.size<w1.heap.size∧w1.cell? ⟨w.heap.size,0,none⟩=some (.int .i64 x)∧w1.cell? ⟨w.heap.size,1,none⟩=some (.string (S t)) from⟨Nat.lt_of_lt_of_le hzb hb.size,d0,d1⟩)
 have HE1:=qh (HE.o.below hb HE.o.size);have HB1:=bt HB hb
 rw [HOK.o]
 clear hb c0 c1 HX HE HB hzb
 go_wp2_with fail
 refine (b2e x _ h0 oZ HE1.o).mono ?_
 rintro e w2 ⟨rfl,hb⟩
 obtain⟨hzb,_,_⟩:=HX1.o
 have e1:=(hb.cell (p:=⟨w.heap.size,1,none⟩) hzb).trans d1
 have HB2:=bt HB1 hb
 have hnl:(P.num x.toNat).length≤20:=P.a5v _ oZ
 clear hb d0 d1 HX1 hzb
 go_wp2
 go_ret2
 exact⟨rfl,HB2.o⟩
def ErrS (w:World):Prop:=∃ev,w.cell? ⟨1,0,none⟩=some ev∧(ev=.nilIface∨∃te pe,ev=.iface te pe)
theorem ErrS.below {w w':World} (h:ErrS w) (hb:Below w.heap.size w w'):ErrS w':=by
 obtain⟨ev,h1,h2⟩:=h;have h3:1<w.heap.size:=Lib.lt_of_cell h1;exact⟨ev,(hb.cell (p:=⟨1,0,none⟩) h3).trans h1,h2⟩
theorem d1z (l:Str) (v:Int) (w:World) (h:Lib.atoiAll l=.ok v) (hl:l.length≤100) :
 Calls Tryz.prog 152 #[.string (S l)] w fun e w'=>e=.returned (.tuple #[.int .i64 v,.nilIface])∧Below w.heap.size w w':=by
 refine (Tryz.a6p (S l) (by show l.toArray.size≤_;simp;omega) v h w).mono ?_
 rintro e w' ⟨rfl,rfl|⟨t,rfl⟩⟩
 ·exact⟨rfl,Below.refl _ _⟩
 ·exact⟨rfl,Lib.bytesWorld_below _ _ _⟩
theorem d4b (l:Str) (w:World) (h:Lib.atoiAll l=Lib.atoiAll []) (hl:l.length≤100) (hE:ErrS w) :
 Calls Tryz.prog 152 #[.string (S l)] w fun e w'=>∃N,e=.returned (.tuple #[.int .i64 0,.iface 259 (.pointer (some ⟨N,0,none⟩))])∧Below w.heap.size w w':=by
 obtain⟨ev,h1,h2⟩:=hE
 refine (Tryz.a4g (S l) (by show l.toArray.size≤_;simp;omega) h ev w h1 h2).mono ?_
 rintro e w' ⟨N,rfl,_,_,hb⟩
 exact⟨N,rfl,hb⟩
theorem b8n (x:Int) (w:World) (h0:0≤x) (h1:x≤2000) (hE:L.Env w) :
 Calls Tryz.prog 80 #[.string (S (P.num x.toNat))] w fun e w'=>e=.returned (.tuple #[.int .i64 x,.bool true])∧Below w.heap.size w w':=by
 have hl:=P.b7s (n:=x.toNat) oZ
 have ha:=P.d2q (n:=x.toNat) oZ
 rw [show ((x.toNat:Nat):Int)=x by omega]at ha
 have HA:=qh ha
 clear ha
 go_enter Tryz.func80,Tryz.ntmps80
 go_wp2_with fail
 refine (d1z _ x _ HA.o oZ).mono ?_
 rintro e w1 ⟨rfl,hb⟩
 have HB:=qh hb;have HE:=qh (hE.below hb hE.size)
 clear hb hE
 go_wp2_with fail
 refine (b2e x _ h0 oZ HE.o).mono ?_
 rintro e w2 ⟨rfl,hb⟩
 have HB2:=bt HB hb
 clear hb HB
 go_wp2
 go_ret2
 exact⟨rfl,HB2.o⟩
theorem c0v (w:World) (hE:L.Env w) (hS:ErrS w) :
 Calls Tryz.prog 80 #[.string (S P.a6e)] w fun e w'=>e=.returned (.tuple #[.int .i64 0,.bool false])∧Below w.heap.size w w':=by
 have HS:=qh hS
 clear hS
 go_enter Tryz.func80,Tryz.ntmps80
 go_wp2_with fail
 refine (d4b _ _ P.c7k dZ HS.o).mono ?_
 rintro e w1 ⟨M,rfl,hb⟩
 have HB:=qh hb;have HE:=qh (hE.below hb hE.size)
 clear hb hE
 go_wp2_with fail
 refine (b2e 0 _ oZ oZ HE.o).mono ?_
 rintro e w2 ⟨rfl,hb⟩
 have HB2:=bt HB hb
 clear hb HB
 go_wp2
 go_ret2
 exact⟨rfl,HB2.o⟩
theorem c4z (l:Str) (w:World) :
 Calls Tryz.prog 81 #[.string (S (45::l)),.string ⟨#[45]⟩] w fun e w'=>e=.returned (.string (S l))∧w=w':=by
 refine (Tryz.strings_TrimPrefix (S (45::l)) ⟨#[45]⟩ w).mono ?_
 rintro e w' ⟨rfl,rfl⟩
 refine⟨?_,rfl⟩
 have:Lib.trimPrefix (45::l) [45]=l:=by unfold Lib.trimPrefix Lib.hasPrefix;simp
 show Ending.returned (.string ⟨(Lib.trimPrefix (45::l) [45]).toArray⟩)=_
 rw [this];rfl
theorem c8v (w:World) :
 Calls Tryz.prog 81 #[.string (S P.a6e),.string ⟨#[45]⟩] w fun e w'=>e=.returned (.string (S P.a6e))∧w=w':=by
 refine (Tryz.strings_TrimPrefix (S P.a6e) ⟨#[45]⟩ w).mono ?_
 rintro e w' ⟨rfl,rfl⟩
 exact⟨rfl,rfl⟩
def c0m (e0:P.Edit) (b:Bool) (w:World) (e:Ending) (w':World):Prop:=e=.returned (.tuple #[a2j e0,.bool b])∧Below w.heap.size w w'
theorem b5t (x:Int) (t:Str) (w:World) (he:P.a3d (x,t)=true) (hE:L.Env w) :
 Calls Tryz.prog 24 #[.string (S (P.fmtE (x,t)))] w (c0m (x,t) true w):=by
 obtain⟨h0,h1,h2⟩:=P.a6u he
 simp only at h0 h1 h2
 have htl:=P.a2m h2
 have hnl:=P.b7s (n:=x.toNat) oZ
 have hfl:(P.fmtE (x,t)).length≤2^20:=by unfold P.fmtE;simp only [List.length_cons,List.length_append];omega
 have HC:=qh (P.d0a x t)
 have HOK:=qh he
 have hb0:=(Below.refl w.heap.size w).alloc lZ (.cells #[.int .i64 0,.string (S [])] 55)
 have HX:=qh (show EBx w.heap.size (w.alloc (.cells #[.int .i64 0,.string (S [])] 55)) from⟨by simp,by go_simp,by go_simp,by go_simp,by go_simp⟩)
 have HE:=qh (hE.below hb0 hE.size);have HB:=qh hb0
 have HF:=qh (show P.fmtE (x,t)=P.fmtE (x,t) from rfl)
 clear hb0 hE he h2
 generalize hf:P.fmtE (x,t)=f at HC HF hfl⊢
 have HF1:=qh hf
 clear hf HF
 go_enter Tryz.func24,Tryz.ntmps24
 go_upto_region 1 with fail
 generalize (World.alloc _ _)=W0 at *
 go_wp2_with fail
 refine (L.b2f f 43 _ oZ HE.o).mono ?_
 rintro e w1 ⟨rfl,n1,rfl⟩
 have hd:Below W0.heap.size W0 (W0.drewN n1):=below_drewN bZ _
 have HX1:=qh (HX.o.below hd);have HE1:=qh (HE.o.below hd HE.o.size);have HB1:=bt HB hd
 clear hd HX HE HB
 generalize W0.drewN n1=W1 at *
 have hc1:(Lib.cut f [43]).1=45::P.num x.toNat:=by rw [HC.o]
 have hc2:(Lib.cut f [43]).2.1=t:=by rw [HC.o]
 have hc3:(Lib.cut f [43]).2.2=true:=by rw [HC.o]
 rw [hc1,hc2,hc3]
 clear hc1 hc2 hc3 HC
 go_wp2_with fail
 refine (c4z _ _).mono ?_
 rintro e w1 ⟨rfl,rfl⟩
 go_wp2_with fail
 refine (b8n x _ h0 h1 HE1.o).mono ?_
 rintro e W2 ⟨rfl,hb⟩
 have HX2:=qh (HX1.o.below hb);have HE2:=qh (HE1.o.below hb HE1.o.size);have HB2:=bt HB1 hb
 clear hb HX1 HE1 HB1
 have hb3:=(Below.refl W2.heap.size W2).alloc lZ (.cells #[.int .i64 x,.string (S t)] 55)
 have HY:=qh (a0w.new (.int .i64 x) t 55 W2)
 have HX3:=qh (HX2.o.below hb3);have HE3:=qh (HE2.o.below hb3 HE2.o.size);have HB3:=bt HB2 hb3
 clear hb3 HX2 HE2 HB2
 go_upto_region 4 with fail
 generalize (World.alloc _ _)=W3 at *
 obtain⟨y0,y1,_⟩:=HY.o
 go_wp2_with fail
 refine (a2f x t _ HOK.o HE3.o).mono ?_
 rintro e W4 ⟨rfl,hb⟩
 have HY4:=qh (HY.o.below hb);have HX4:=qh (HX3.o.below hb);have HB4:=bt HB3 hb
 clear hb y0 y1 HY HX3 HE3 HB3
 rw [HF1.o]
 obtain⟨y0,y1,_⟩:=HY4.o
 obtain⟨x0,x1,x2,x3,x4⟩:=HX4.o
 go_wp2
 obtain⟨k0,k1,_⟩:=a0w.set2 (y:=.int .i64 x) (r:=t) x1 x2 x0
 have HB5:=qh ((HB4.o.setCell (p:=⟨w.heap.size,0,none⟩) sZ (.int .i64 x)).setCell (p:=⟨w.heap.size,1,none⟩) sZ (.string (S t)))
 generalize (World.setCell (World.setCell _ _ _) _ _)=W5 at *
 refine bodyPost_ret (v:=.tuple #[.agg #[.int .i64 x,.string (S t)],.bool true]) (by simp [results,Tryz.results24,go_sem,k0,k1]) rfl ⟨rfl,HB5.o⟩
theorem b4a (w:World) (hE:L.Env w) (hS:ErrS w) :
 Calls Tryz.prog 24 #[.string (S P.a6e)] w (c0m (0,[]) false w):=by
 have HC:=qh P.d0v
 have hb0:=(Below.refl w.heap.size w).alloc lZ (.cells #[.int .i64 0,.string (S [])] 55)
 have HX:=qh (show EBx w.heap.size (w.alloc (.cells #[.int .i64 0,.string (S [])] 55)) from⟨by simp,by go_simp,by go_simp,by go_simp,by go_simp⟩)
 have HE:=qh (hE.below hb0 hE.size);have HB:=qh hb0;have HS:=qh hS
 clear hb0 hE hS
 obtain⟨f,hf⟩:∃f,f=P.a6e:=⟨_,rfl⟩
 have hfl:f.length=4:=by rw [hf];rfl
 have HF:=qh hf
 rw [←hf]at HC⊢
 clear hf
 go_enter Tryz.func24,Tryz.ntmps24
 go_upto_region 1 with fail
 generalize (World.alloc _ _)=W0 at *
 go_wp2_with fail
 refine (L.b2f f 43 _ oZ HE.o).mono ?_
 rintro e w1 ⟨rfl,n1,rfl⟩
 have hd:Below W0.heap.size W0 (W0.drewN n1):=below_drewN bZ _
 have HX1:=qh (HX.o.below hd);have HE1:=qh (HE.o.below hd HE.o.size);have HB1:=bt HB hd
 clear hd HX HE HB
 generalize W0.drewN n1=W1 at *
 have hc1:(Lib.cut f [43]).1=f:=by rw [HC.o]
 have hc2:(Lib.cut f [43]).2.1=[]:=by rw [HC.o]
 have hc3:(Lib.cut f [43]).2.2=false:=by rw [HC.o]
 rw [hc1,hc2,hc3]
 clear hc1 hc2 hc3 HC
 go_wp2_with fail
 refine (show Calls Tryz.prog 81 #[.string (S f),.string ⟨#[45]⟩] W1 fun e w'=>e=.returned (.string (S f))∧W1=w' from by rw [HF.o];exact c8v W1).mono ?_
 rintro e w1 ⟨rfl,rfl⟩
 go_wp2_with fail
 refine (show Calls Tryz.prog 80 #[.string (S f)] W1 fun e w'=>e=.returned (.tuple #[.int .i64 0,.bool false])∧Below W1.heap.size W1 w' from by rw [HF.o];exact c0v W1 HE1.o (HS.o.below HB1.o)).mono ?_
 rintro e W2 ⟨rfl,hb⟩
 have HX2:=qh (HX1.o.below hb);have HE2:=qh (HE1.o.below hb HE1.o.size);have HB2:=bt HB1 hb
 clear hb HX1 HE1 HB1
 have hb3:=(Below.refl W2.heap.size W2).alloc lZ (.cells #[.int .i64 0,.string (S [])] 55)
 have HY:=qh (a0w.new (.int .i64 0) [] 55 W2)
 have HX3:=qh (HX2.o.below hb3);have HE3:=qh (HE2.o.below hb3 HE2.o.size);have HB3:=bt HB2 hb3
 clear hb3 HX2 HE2 HB2
 go_upto_region 4 with fail
 generalize (World.alloc _ _)=W3 at *
 obtain⟨y0,y1,_⟩:=HY.o
 go_wp2_with fail
 refine (a2f 0 [] _ dZ HE3.o).mono ?_
 rintro e W4 ⟨rfl,hb⟩
 have HY4:=qh (HY.o.below hb);have HX4:=qh (HX3.o.below hb);have HB4:=bt HB3 hb
 clear hb y0 y1 HY HX3 HE3 HB3
 have hne:P.fmtE (0,[])≠f:=by rw [HF.o];decide
 have hnb:(P.fmtE (0,[])==f)=false:=by simpa using hne
 obtain⟨y0,y1,_⟩:=HY4.o
 obtain⟨x0,x1,x2,x3,x4⟩:=HX4.o
 go_wp2
 obtain⟨k0,k1,_⟩:=a0w.set2 (y:=.int .i64 0) (r:=[]) x1 x2 x0
 have HB5:=qh ((HB4.o.setCell (p:=⟨w.heap.size,0,none⟩) sZ (.int .i64 0)).setCell (p:=⟨w.heap.size,1,none⟩) sZ (.string (S [])))
 generalize (World.setCell (World.setCell _ _ _) _ _)=W5 at *
 refine bodyPost_ret (v:=.tuple #[.agg #[.int .i64 0,.string (S [])],.bool false]) (by simp [results,Tryz.results24,go_sem,k0,k1]) rfl ⟨rfl,HB5.o⟩
def a2s (lo B:Nat) (v:World) (u us:Value) (l:P.Dic) (st:List Int):Prop:=
 ∃F G:Blk,Ents v F u l∧Ints v G us st∧(∀b,F b→lo≤b∧b<v.heap.size∧b≠B)∧(∀b,G b→lo≤b∧b<v.heap.size∧b≠B)∧∀b,F b→¬G b
theorem a2s.a0c {lo B:Nat} {v v':World} {u us:Value} {l:P.Dic} {st:List Int} {X:Blk} (h:a2s lo B v u us l st) (hc:Chg X v v') (hX:∀b,X b→b=B∨v.heap.size≤b):a2s lo B v' u us l st:=by
 obtain⟨F,G,h1,h2,h3,h4,h5⟩:=h;have hz:=hc.size;refine⟨F,G,h1.a0c a0e hc (fun b hb hx=>?_),h2.a0c a1a hc (fun b hb hx=>?_),fun b hb=>⟨(h3 b hb).1,Nat.lt_of_lt_of_le (h3 b hb).2.1 hz,(h3 b hb).2.2⟩,fun b hb=>⟨(h4 b hb).1,Nat.lt_of_lt_of_le (h4 b hb).2.1 hz,(h4 b hb).2.2⟩,h5⟩
 ·have:=h3 b hb;rcases hX b hx with e|e
  ·exact this.2.2 e
  ·omega
 ·have:=h4 b hb;rcases hX b hx with e|e
  ·exact this.2.2 e
  ·omega
theorem a2s.below {lo B:Nat} {v v':World} {u us:Value} {l:P.Dic} {st:List Int} (h:a2s lo B v u us l st) (hb:Below v.heap.size v v'):a2s lo B v' u us l st:=h.a0c (Below.chg hb fun _=>False) fun _ h=>h.elim
theorem a2s.dic {lo B:Nat} {v:World} {u us:Value} {l:P.Dic} {st:List Int} (h:a2s lo B v u us l st):EntR v u l:=by obtain⟨F,G,h1,_⟩:=h;exact h1.read
theorem a2s.str {lo B:Nat} {v:World} {u us:Value} {l:P.Dic} {st:List Int} (h:a2s lo B v u us l st):IntR v us st:=by obtain⟨F,G,_,h2,_⟩:=h;exact Ints.read h2
theorem a2s.a6n {lo B m:Nat} {v v':World} {u us us':Value} {l:P.Dic} {st st':List Int} (h:a2s lo B v u us l st) (hb:Below v.heap.size v v') (hm:v.heap.size≤m) (hlo:lo≤v.heap.size) (hB:B<v.heap.size) (hk:OwnK m v' us' st') (hl:st'.length≤2^30):a2s lo B v' u us' l st':=by
 obtain⟨F,G,h1,h2,h3,h4,h5⟩:=h;have hz:=hb.size;refine⟨F,BetO m v'.heap.size us',h1.below a0e hb,a7e hk hl,fun b hb=>⟨(h3 b hb).1,Nat.lt_of_lt_of_le (h3 b hb).2.1 hz,(h3 b hb).2.2⟩,fun b hb=>?_,fun b hb hg=>?_⟩
 ·have:=hb.1;exact⟨by omega,this.2,by omega⟩
 ·have h6:=(h3 b hb).2.1;have h7:=hg.1.1;omega
theorem a2s.other {lo B m n:Nat} {v v':World} {u us u':Value} {l l':P.Dic} {st:List Int} (h:a2s lo B v u us l st) (hb:Below v.heap.size v v') (hm:v.heap.size≤m) (hn:n≤v'.heap.size) (hlo:lo≤v.heap.size) (hB:B<v.heap.size) (hk:Ents v' (Bet m n) u' l'):a2s lo B v' u' us l' st:=by
 obtain⟨F,G,h1,h2,h3,h4,h5⟩:=h;have hz:=hb.size;refine⟨Bet m n,G,hk,h2.below a1a hb,fun b hb=>?_,fun b hb=>⟨(h4 b hb).1,Nat.lt_of_lt_of_le (h4 b hb).2.1 hz,(h4 b hb).2.2⟩,fun b hf hg=>?_⟩
 ·have h6:=hb.1;have h7:=hb.2;exact⟨by omega,by omega,by omega⟩
 ·have h6:=(h4 b hg).2.1;have h7:=hf.1;omega
theorem a2s.both {lo B m n:Nat} {v v':World} {u us:Value} {l:P.Dic} {st:List Int} (_hz:v.heap.size≤v'.heap.size) (hm:v.heap.size≤m) (hn:n≤v'.heap.size) (hmn:m≤n) (hlo:lo≤v.heap.size) (hB:B<v.heap.size) (h1:Ents v' (Bet m n) u l) (h2:OwnK n v' us st) (hl:st.length≤2^30):a2s lo B v' u us l st:=by
 refine⟨Bet m n,BetO n v'.heap.size us,h1,a7e h2 hl,fun b hb=>?_,fun b hb=>?_,fun b hf hg=>?_⟩
 ·have h6:=hb.1;have h7:=hb.2;exact⟨by omega,by omega,by omega⟩
 ·have h6:=hb.1;exact⟨by omega,h6.2,by omega⟩
 ·have h6:=hf.2;have h7:=hg.1.1;omega
def SesM (lo B:Nat) (s:P.Ses) (g:P.LogT) (v:World):Prop:=
 L.EB≤B∧lo≤v.heap.size∧∃u us,SOut B u us s.2.2 g.1 g.2.1 g.2.2 v∧a2s lo B v u us s.1 s.2.1
theorem SesM.below {lo B:Nat} {s:P.Ses} {g:P.LogT} {v v':World} (h:SesM lo B s g v) (hb:Below v.heap.size v v'):SesM lo B s g v':=by
 obtain⟨h0,h1,u,us,h2,h3⟩:=h;exact⟨h0,Nat.le_trans h1 hb.size,u,us,h2.below hb,h3.below hb⟩
def okB (x:Str) (ok:Bool):Option Str:=if ok then some x else none
def a4l (lo B:Nat) (a:P.Ans) (g:P.LogT) (w:World) (e:Ending) (w':World):Prop:=
 ∃x ok,e=.returned (.tuple #[.string (S x),.bool ok])∧okB x ok=a.2∧SesM lo B a.1 g w'∧Chg (fun b=>b=B) w w'
def txtB (o:Option Str):Str:=o.getD [63]
def b4e (w v:World) (u0:Value) (l0:List Int) (u:Value) (l:List Int):Prop:=(u=u0∧l=l0)∨∃F:Blk,Ints v F u l∧∀b,F b→w.heap.size≤b
theorem b4e.read {w v:World} {u0 u:Value} {l0 l:List Int} (h:b4e w v u0 l0 u l) (h0:IntR w u0 l0) (hb:Below w.heap.size w v):IntR v u l:=by
 rcases h with⟨rfl,rfl⟩|⟨F,h1,_⟩
 ·exact h0.below hb
 ·exact Ints.read h1
theorem b4e.after {w w1 v v':World} {u0 u:Value} {l0 l:List Int} {X:Blk} (h:b4e w1 v u0 l0 u l) (hw:w.heap.size≤w1.heap.size) (hc:Chg X v v') (hX:∀b,X b→b<w1.heap.size):b4e w v' u0 l0 u l:=
 h.imp id fun⟨F,h1,h2⟩=>⟨F,h1.a0c a1a hc (fun b hb hx=>by have g1:=h2 b hb;have g2:=hX b hx;omega),fun b hb=>Nat.le_trans hw (h2 b hb)⟩
def RdS (a b g p:Nat) (dv tv:Value) (t:Str) (s:Int) (v:World):Prop:=v.cell? ⟨a,0,none⟩=some dv∧v.cell? ⟨b,0,none⟩=some tv∧v.cell? ⟨b,1,none⟩=some (.string (S t))∧v.cell? ⟨g,p,none⟩=some (.int .i64 s)
theorem RdS.step {a b g p:Nat} {dv tv:Value} {t:Str} {s:Int} {v v':World} {B:Nat} (h:RdS a b g p dv tv t s v) (hb:Below B v v') (hB:a<B∧b<B∧g<B):RdS a b g p dv tv t s v':=
 ⟨(hb.cell (p:=⟨a,0,none⟩) hB.1).trans h.1,(hb.cell (p:=⟨b,0,none⟩) hB.2.1).trans h.2.1,(hb.cell (p:=⟨b,1,none⟩) hB.2.1).trans h.2.2.1,(hb.cell (p:=⟨g,p,none⟩) hB.2.2).trans h.2.2.2⟩
namespace P
theorem d2o {d:Dic} {t:Tr} {o:List Int} {j:Nat} (hj:j<o.length):b1v d t (o.drop j)=if (a3o d t o[j]).2 then b1v d (a3o d t o[j]).1.1 (o.drop (j+1)) else none:=by
 rw [List.drop_eq_getElem_cons hj];rfl
theorem d1x {s:Ses} {o:List Int} (h:b1v s.1 s.2 o=none):typed s o=(s,none):=by unfold typed;rw [h]
theorem c7n {s:Ses} {o:List Int} {t:Tr} (h:b1v s.1 s.2 o=some t):typed s o=((s.1,t),some (fmtE (least s.2.2 t.2))):=by unfold typed;rw [h]
theorem c9r {d:Dic} {t:Tr} {o:List Int}:b1v d t (o.drop o.length)=some t:=by rw [List.drop_length];rfl
end P
structure TySt (W0:World) (m b:Nat) (l:P.Dic) (us0:Value) (st0:List Int) (tv:Value) (t:P.Tr) (v:World):Prop where
 box:TBx b tv t.2 v
 str:IntR v tv t.1
 tra:P.trans l t=true
 chg:Chg (fun k=>k=b) W0 v
 own:(tv=us0∧t.1=st0)∨OwnK m v tv t.1
theorem TySt.below {W0:World} {m b:Nat} {l:P.Dic} {us0:Value} {st0:List Int} {tv:Value} {t:P.Tr} {v v':World} (h:TySt W0 m b l us0 st0 tv t v) (hb:Below v.heap.size v v'):TySt W0 m b l us0 st0 tv t v':=
 ⟨h.box.below hb,h.str.below hb,h.tra,h.chg.trans (Below.chg hb _),h.own.imp id fun k=>a0k k hb lZ⟩
theorem TySt.store {W0:World} {m b:Nat} {l:P.Dic} {us0:Value} {st0:List Int} {tv nv:Value} {t t':P.Tr} {v z:World} (h:TySt W0 m b l us0 st0 tv t v) (hb:Below v.heap.size v z) (hmz:m≤v.heap.size)
 (ho:OwnK v.heap.size z nv t'.1) (ht:P.trans l t'=true) (hl:t'.1.length≤2^45):TySt W0 m b l us0 st0 nv t' ((z.setCell ⟨b,0,none⟩ nv).setCell ⟨b,1,none⟩ (.string (S t'.2))):=by
 have hset:Chg (fun k=>k=b) z ((z.setCell ⟨b,0,none⟩ nv).setCell ⟨b,1,none⟩ (.string (S t'.2))):=((Chg.refl (fun k=>k=b) z).setCell (p:=⟨b,0,none⟩) rfl _).setCell (p:=⟨b,1,none⟩) rfl _
 have hbz:=h.box.1
 obtain⟨z1,c0,c1,f0,f1⟩:=h.box.below hb
 have ho2:OwnK v.heap.size ((z.setCell ⟨b,0,none⟩ nv).setCell ⟨b,1,none⟩ (.string (S t'.2))) nv t'.1:=a0g ho hset fun k hk e=>by
  have:=(World.ownsRow.lt ho k hk).1;have e2:k=b:=e;omega
 exact⟨⟨by simpa [World.setCell] using z1,by go_simp,by go_simp,by go_simp,by go_simp⟩,a1i ho2 hl,ht,(h.chg.trans (Below.chg hb _)).trans hset,.inr (a1n ho2 hmz)⟩
theorem TySt.fresh {W0 w V:World} {m b:Nat} {l:P.Dic} {us0:Value} {st0:List Int} {tv:Value} {t:P.Tr} {v:World} {X:Blk} (h:TySt W0 m b l us0 st0 tv t v) (hc:Chg X v V) (hX:∀k,X k→k<m) (hl:t.1.length≤2^30) (hw:w.heap.size≤m):b4e w V us0 st0 tv t.1:=by
 rcases h.own with h1|ho
 ·exact .inl h1
 ·exact .inr ⟨BetO m V.heap.size tv,a7e (a0g ho hc fun k hk hx=>by have h1:=(World.ownsRow.lt ho k hk).1;have h2:=hX k hx;omega) hl,fun k hk=>Nat.le_trans hw hk.1.1⟩
end Go.Proofs.YtggfdnopminemaaGreatDoor
