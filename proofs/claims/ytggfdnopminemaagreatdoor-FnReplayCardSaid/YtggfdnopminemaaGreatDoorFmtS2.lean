/- Walks: the rule of a. -/
import Derived.Test.YtggfdnopminemaaGreatDoorSpellS
set_option linter.all false
namespace Go.Proofs.YtggfdnopminemaaGreatDoor
open Go.Proofs.Tryz
open Go Go.RowKit
set_option maxHeartbeats 8000000
set_option maxRecDepth 100000
variable {b:Nat} {s:P.St} {v v':Go.World}
theorem a7g (s:Str) (w:World) (hs:s.length<=2^30) :
 Cz 346 #[.string (S s)] w λe w'=>e=.returned (.bool (decide (P.a1j s=1)&&P.closed s))/\w=w':=by
 have hc:P.closed s=(decide (3<=s.length)&&(!P.vow (P.back s 3)&&(P.vow (P.back s 2)&&(!P.vow (P.back s 1)&&!(P.back s 1==119||(P.back s 1==120||P.back s 1==121)))))):=rfl
 by_cases h3:3<=s.length
 .obtain⟨n3,hn3⟩:∃n,n+3=s.length:=⟨s.length-3,by omega⟩;obtain⟨l1,b1⟩:=P.a6n (s:=s) (n:=n3+2) (k:=1) oZ oZ;obtain⟨l2,b2⟩:=P.a6n (s:=s) (n:=n3+1) (k:=2) oZ oZ;obtain⟨l3,b3⟩:=P.a6n (s:=s) (n:=n3) (k:=3) oZ oZ;rw [b1,b2,b3,decide_eq_true h3]at hc;have i1:¬(s.length:Int)<3:=by omega
  have i2:(s.length:Int)-1=((n3+2:Nat):Int):=by omega
  have i3:(s.length:Int)-2=((n3+1:Nat):Int):=by omega
  have i4:(s.length:Int)-3=(n3:Int):=by omega
  obtain⟨r1,hr1⟩:∃q,((s[n3+2]'l1)==119)=q:=⟨_,rfl⟩;obtain⟨r2,hr2⟩:∃q,((s[n3+2]'l1)==120)=q:=⟨_,rfl⟩;obtain⟨r3,hr3⟩:∃q,((s[n3+2]'l1)==121)=q:=⟨_,rfl⟩;have f1:(((s[n3+2]'l1).toNat:Int)==119)=r1:=(a7i _ 119 dZ).trans hr1;have g1:(((s[n3+2]'l1).toNat:Int) != 119)=!r1:=by rw [<-f1];rfl
  have f2:(((s[n3+2]'l1).toNat:Int)==120)=r2:=(a7i _ 120 dZ).trans hr2;have g2:(((s[n3+2]'l1).toNat:Int) != 120)=!r2:=by rw [<-f2];rfl
  have f3:(((s[n3+2]'l1).toNat:Int)==121)=r3:=(a7i _ 121 dZ).trans hr3;have g3:(((s[n3+2]'l1).toNat:Int) != 121)=!r3:=by rw [<-f3];rfl
  rw [hr1,hr2,hr3]at hc;obtain⟨q1,hq1⟩:∃q,P.vow (s[n3+2]'l1)=q:=⟨_,rfl⟩;obtain⟨q2,hq2⟩:∃q,P.vow (s[n3+1]'l2)=q:=⟨_,rfl⟩;obtain⟨q3,hq3⟩:∃q,P.vow (s[n3]'l3)=q:=⟨_,rfl⟩;rw [hq1,hq2,hq3]at hc;have HC:=qh hc;obtain⟨p,hp⟩:∃q,decide (P.a1j s=1)=q:=⟨_,rfl⟩;have HP:=qh hp;have f0:((P.a1j s:Int)==1)=p:=by rw [<-hp,Bool.eq_iff_iff];simp;omega
  have f0':((P.a1j s:Int) != 1)=!p:=by rw [<-f0];rfl
  clear hc b1 b2 b3 hr1 hr2 hr3 hp hn3 h3 f0 f1 f2 f3;have FIN:Hq (∀x:Bool,(p&&P.closed s)=x->(decide (P.a1j s=1)&&P.closed s)=x):=⟨λx h=>by rw [HP.o];exact h⟩
  cases p with
  |false=>
   exact zq15
  |true=>
   cases q3 with
   |true=>
    exact zq15
   |false=>
    cases q2 with
    |false=>
     exact zq15
    |true=>
     cases q1 with
     |true=>
      exact zq15
     |false=>
      cases r1 with
      |true=>
       exact zq15
      |false=>
       cases r2 with
       |true=>
        exact zq15
       |false=>
        exact zq15
 .have HC:=qh (show P.closed s=false by rw [hc,decide_eq_false h3];rfl);have i1:(s.length:Int)<3:=by omega
  clear hc
  go_enter func346,ntmps346
  go_wp2;go_ret;exact⟨a0a (by rw [HC.o];simp),rfl⟩
theorem l9Rule (x y:Str) (w:World) (hx:x.length<=2^30) (hy:0<y.length) :
 Cz 297 #[.string (S x),.string (S y)] w λe w'=>e=.returned (.int .i64 (P.rule x y))/\w=w':=by
 have hr:P.rule x y=(if (y==[115])&&P.a9n x then 1
  else if (y==[115])&&(P.ends x [115]||(P.ends x [120]||(P.ends x [122]||(P.ends x [99,104]||P.ends x [115,104])))) then 2
  else if (y==[105,110,103])&&P.ends x [105,101] then 3
  else if P.a9n x&&!(y.getD 0 0==105) then 4
  else if P.c2v x&&P.vow (y.getD 0 0) then 5
  else if decide (P.a1j x=1)&&(P.closed x&&P.vow (y.getD 0 0)) then 6 else 0):=rfl
 rw [P.getD_at hy]at hr
 obtain⟨y0,hy0⟩:∃v,(y[0]'hy==105)=v:=⟨_,rfl⟩
 have f0:(((y[0]'hy).toNat:Int)==105)=y0:=(a7i _ 105 dZ).trans hy0
 have f0':(((y[0]'hy).toNat:Int) != 105)=!y0:=by rw [<-f0];rfl
 have h5:(P.c2v x&&P.vow (y[0]'hy))=(decide (2<=x.length)&&(P.ends x [101]&&(!P.ends x [101,101]&&(!P.ends x [111,101]&&(!P.ends x [121,101]&&P.vow (y[0]'hy)))))):=by
  exact zq141
 have h6:(decide (P.a1j x=1)&&(P.closed x&&P.vow (y[0]'hy)))=((decide (P.a1j x=1)&&P.closed x)&&P.vow (y[0]'hy)):=by
  cases decide (P.a1j x=1)<;>rfl
 rw [hy0,h5,h6]at hr
 have HR:=qh hr
 clear hr hy0 f0 h5 h6
 go_enter func297,ntmps297
 go_upto_region 2 with (first|(go_at_call 343;refine (a4x _ _).mono ?_;rintro e w' ⟨rfl,rfl⟩)|(go_at_call 344;refine (a3s _ _ oZ).mono ?_;rintro e w' ⟨rfl,rfl⟩)|(go_at_call 345;refine (b9u _ _ _ oZ).mono ?_;rintro e w' ⟨rfl,rfl⟩)|(go_at_call 346;refine (a7g _ _ hx).mono ?_;rintro e w' ⟨rfl,rfl⟩))
 go_upto_region 2 with fail
 go_cut [9] (λc wx=>c=.bool ((y==[115])&&P.a9n x)/\w=wx)
 case first=>
  cases g4:(y==[115]) with
  |false=>
   exact zq4
  |true=>
   exact zq4
 case rest=>
 obtain⟨rfl,rfl⟩:=hcut
 cases hc0:((y==[115])&&P.a9n x)
 rotate_left
 .have HZ:=qh (show P.rule x y=1 by rw [HR.o,hc0];rfl);clear hc0;go_wp2;go_ret;exact⟨a2t (by rw [HZ.o];rfl),rfl⟩
 have N0:=qh hc0
 clear hc0
 go_upto_region 4 with fail
 go_cut [16] (λc wx=>c=.bool ((y==[115])&&(P.ends x [115]||(P.ends x [120]||(P.ends x [122]||(P.ends x [99,104]||P.ends x [115,104])))))/\w=wx)
 case first=>
  cases g4:(y==[115]) with
  |false=>
   exact zq4
  |true=>
   cases g6:P.ends x [115] with
   |true=>
    exact zq82
   |false=>
    cases g8:P.ends x [120] with
    |true=>
     exact zq81
    |false=>
     cases g10:P.ends x [122] with
     |true=>
      exact zq80
     |false=>
      cases g12:P.ends x [99,104] with
      |true=>
       exact zq19
      |false=>
       exact zq19
 case rest=>
 obtain⟨rfl,rfl⟩:=hcut
 cases hc1:((y==[115])&&(P.ends x [115]||(P.ends x [120]||(P.ends x [122]||(P.ends x [99,104]||P.ends x [115,104])))))
 rotate_left
 .have HZ:=qh (show P.rule x y=2 by rw [HR.o,N0.o,if_neg dZ,hc1];rfl);clear hc1;go_wp2;go_ret;exact⟨a2t (by rw [HZ.o];rfl),rfl⟩
 have N1:=qh hc1
 clear hc1
 go_upto_region 6 with fail
 go_cut [39] (λc wx=>c=.bool ((y==[105,110,103])&&P.ends x [105,101])/\w=wx)
 case first=>
  cases g4:(y==[105,110,103]) with
  |false=>
   exact zq4
  |true=>
   exact zq4
 case rest=>
 obtain⟨rfl,rfl⟩:=hcut
 cases hc2:((y==[105,110,103])&&P.ends x [105,101])
 rotate_left
 .have HZ:=qh (show P.rule x y=3 by rw [HR.o,N0.o,if_neg dZ,N1.o,if_neg dZ,hc2];rfl);clear hc2;go_wp2;go_ret;exact⟨a2t (by rw [HZ.o];rfl),rfl⟩
 have N2:=qh hc2
 clear hc2
 go_upto_region 8 with fail
 go_cut [46] (λc wx=>c=.bool (P.a9n x&&!y0)/\w=wx)
 case first=>
  cases g4:P.a9n x with
  |false=>
   exact zq4
  |true=>
   exact zq4
 case rest=>
 obtain⟨rfl,rfl⟩:=hcut
 cases hc3:(P.a9n x&&!y0)
 rotate_left
 .have HZ:=qh (show P.rule x y=4 by rw [HR.o,N0.o,if_neg dZ,N1.o,if_neg dZ,N2.o,if_neg dZ,hc3];rfl);clear hc3;go_wp2;go_ret;exact⟨a2t (by rw [HZ.o];rfl),rfl⟩
 have N3:=qh hc3
 clear hc3
 go_upto_region 10 with fail
 go_cut [54] (λc wx=>c=.bool (decide (2<=x.length)&&(P.ends x [101]&&(!P.ends x [101,101]&&(!P.ends x [111,101]&&(!P.ends x [121,101]&&P.vow (y[0]'hy))))))/\w=wx)
 case first=>
  by_cases g4:2<=x.length
  .have g':(2:Int)<=(x.length:Int):=by omega
   cases g6:P.ends x [101] with
   |false=>
    exact zq82
   |true=>
    cases g8:P.ends x [101,101] with
    |true=>
     exact zq81
    |false=>
     cases g10:P.ends x [111,101] with
     |true=>
      exact zq80
     |false=>
      cases g12:P.ends x [121,101] with
      |true=>
       exact zq19
      |false=>
       exact zq19
  .have g':¬(2:Int)<=(x.length:Int):=by omega
   exact zq4
 case rest=>
 obtain⟨rfl,rfl⟩:=hcut
 cases hc4:(decide (2<=x.length)&&(P.ends x [101]&&(!P.ends x [101,101]&&(!P.ends x [111,101]&&(!P.ends x [121,101]&&P.vow (y[0]'hy))))))
 rotate_left
 .have HZ:=qh (show P.rule x y=5 by rw [HR.o,N0.o,if_neg dZ,N1.o,if_neg dZ,N2.o,if_neg dZ,N3.o,if_neg dZ,hc4];rfl);clear hc4;go_wp2;go_ret;exact⟨a2t (by rw [HZ.o];rfl),rfl⟩
 have N4:=qh hc4
 clear hc4
 go_upto_region 12 with fail
 go_cut [80] (λc wx=>c=.bool ((decide (P.a1j x=1)&&P.closed x)&&P.vow (y[0]'hy))/\w=wx)
 case first=>
  cases g4:(decide (P.a1j x=1)&&P.closed x) with
  |false=>
   exact zq4
  |true=>
   exact zq4
 case rest=>
 obtain⟨rfl,rfl⟩:=hcut
 cases hc5:((decide (P.a1j x=1)&&P.closed x)&&P.vow (y[0]'hy))
 rotate_left
 .have HZ:=qh (show P.rule x y=6 by rw [HR.o,N0.o,if_neg dZ,N1.o,if_neg dZ,N2.o,if_neg dZ,N3.o,if_neg dZ,N4.o,if_neg dZ,hc5];rfl);clear hc5;go_wp2;go_ret;exact⟨a2t (by rw [HZ.o];rfl),rfl⟩
 have N5:=qh hc5
 clear hc5
 have HZ:=qh (show P.rule x y=0 by rw [HR.o,N0.o,if_neg dZ,N1.o,if_neg dZ,N2.o,if_neg dZ,N3.o,if_neg dZ,N4.o,if_neg dZ,N5.o];rfl)
 go_wp2
 go_ret
 exact⟨a2t (by rw [HZ.o];rfl),rfl⟩
theorem l9Join (x y:Str) (w:World) (hx:x.length<=2^30) (hyl:y.length<=2^30) (hy:0<y.length) :
 Cz 243 #[.string (S x),.string (S y)] w λe w'=>e=.returned (.string (S (P.a4t x y)))/\w=w':=by
 have hj:P.a4t x y=(match P.rule x y with
  |1=>x.take (x.length-1)++[105,101,115]
  |2=>x++[101,115]
  |3=>x.take (x.length-2)++[121,105,110,103]
  |4=>(x.take (x.length-1)++[105])++y
  |5=>x.take (x.length-1)++y
  |6=>(x++x.drop (x.length-1))++y
  |_=>x++y):=rfl
 have HJ:=qh hj
 have hle:=P.d6e x y
 have HLN:=qh (P.c9s (w:=x) (x:=y))
 have H6:Hq (P.rule x y=6->3<=x.length):=⟨P.c5t⟩
 clear hj
 go_enter func243,ntmps243
 go_wp2_with fail
 refine (l9Rule x y _ hx hy).mono ?_
 rintro e w1 ⟨rfl,rfl⟩
 obtain⟨r,hr⟩:∃r,P.rule x y=r:=⟨_,rfl⟩
 rw [hr]at hle HJ HLN H6⊢
 clear hr
 obtain rfl|rfl|rfl|rfl|rfl|rfl|rfl:r=0\/r=1\/r=2\/r=3\/r=4\/r=5\/r=6:=by omega
 .exact zq86
 .have hl:=HLN.o.1 rfl;exact zq54
 .exact zq86
 .have hl:=HLN.o.2.1 rfl;have i1:(x.length:Int)-2=((x.length-2:Nat):Int):=by omega
  have i2:x.length-2<=x.length:=by omega
  exact zq86
 .have hl:=HLN.o.2.2.1 rfl;exact zq54
 .have hl:=HLN.o.2.2.2 rfl;exact zq54
 .have hl:=H6.o rfl;exact zq54
theorem a9o (x y:Str) (w:World) (hx:x.length<=2^30) (hyl:y.length<=2^30) :
 Cz 174 #[.string (S x),.string (S y)] w λe w'=>e=.returned (.tuple #[.string (S (P.a2f x y).1),.bool (P.a2f x y).2])/\w=w':=by
 refine zm68 ?_;intro hj HYL HJL
 cases hqx:P.isWord x with
 |false=>
  have HJ:=qh (show P.a2f x y=([],false) by rw [hj,hqx];rfl);exact zq130
 |true=>
  cases hqy:P.isWord y with
  |false=>
   have HJ:=qh (show P.a2f x y=([],false) by rw [hj,hqx,hqy];rfl);exact zq130
  |true=>
   rw [hqx,hqy]at hj;have hy0:=HYL.o hqy
   by_cases h24:24<(P.a4t x y).length
   .have HJ:=qh (show P.a2f x y=([],false) by rw [hj,if_pos h24];rfl);have i1:(24:Int)<((P.a4t x y).length:Int):=by omega
    exact zq109
   .have HJ:=qh (show P.a2f x y=(P.a4t x y,true) by rw [hj,if_neg h24];rfl);have i1:¬(24:Int)<((P.a4t x y).length:Int):=by omega
    exact zq109
namespace P
theorem d6w {b:UInt8} (h:(b.toNat:Int)<32\/126<(b.toNat:Int)):prn b=false:=by
 unfold prn
 rcases h with h|h
 .rw [decide_eq_false oZ];rfl
 .rw [decide_eq_false (p:=(b.toNat:Int)<=126) oZ,Bool.and_false]
theorem d6h {b:UInt8} (h:32<=(b.toNat:Int)) (h2:(b.toNat:Int)<=126):prn b=true:=by
 unfold prn;rw [decide_eq_true h,decide_eq_true h2];rfl
theorem b4a {s:Bs} {k:Nat} (h:k<s.length) (hb:prn s[k]=false):s.all prn=false:=by
 rw [List.all_eq_false];exact⟨s[k],List.getElem_mem h,by simp [hb]⟩
end P
theorem P.c9e {b:UInt8} (h:(b.toNat:Int)<65\/90<(b.toNat:Int)):P.upB b=false:=by
 unfold P.upB
 rcases h with h|h
 .rw [decide_eq_false oZ];rfl
 .rw [decide_eq_false (p:=(b.toNat:Int)<=90) oZ,Bool.and_false]
theorem P.d7a {b:UInt8} (h:65<=(b.toNat:Int)) (h2:(b.toNat:Int)<=90):P.upB b=true:=by
 unfold P.upB;rw [decide_eq_true h,decide_eq_true h2];rfl
abbrev stV (s:P.St):Value:=.agg #[.string (S s.text),.bool s.a0u,.bool s.a4j,.int .i64 s.cap,.int .i64 (s.word:Int)]
abbrev a1c (s:P.St):Obj:=.cells #[.string (S s.text),.bool s.a0u,.bool s.a4j,.int .i64 s.cap,.int .i64 (s.word:Int)] 225
theorem b5i (s:Str) (w:World) (hs:s.length<=2^40) :
 Cz 369 #[.string (S s)] w λe w'=>e=.returned (.bool (s.all P.prn))/\w=w':=by
 go_enter func369,ntmps369
 go_wp2
 go_loop [3] (λi=>∃k:Nat,k<=s.length/\i=.int .i64 k/\(s.take k).all P.prn=true) (λi=>s.length-(intOf i).toNat)
 case atStart=>exact⟨0,by omega,rfl,by simp⟩
 case round=>
  obtain⟨k,hk,rfl,ha⟩:=hrel;have HA:=qh ha;clear ha
  by_cases hlt:k<s.length
  .have i1:(k:Int)<(s.length:Int):=by omega
   rcases Classical.em ((s[k].toNat:Int)<32\/126<(s[k].toNat:Int)) with h|h
   .have hd:decide (32<=(s[k].toNat:Int)/\(s[k].toNat:Int)<=126)=false:=by rw [decide_eq_false_iff_not];omega
    have H:=qh h;clear h
    go_wp2_with (go_at_call 187;refine (l1In _ _ _ _).mono ?_;rintro e w' ⟨rfl,rfl⟩)
    go_ret;exact⟨a0a (P.b4a hlt (P.d6w H.o)).symm,rfl⟩
   .have h1:32<=(s[k].toNat:Int):=by omega
    have h2:(s[k].toNat:Int)<=126:=by omega
    clear h;have hd:decide (32<=(s[k].toNat:Int)/\(s[k].toNat:Int)<=126)=true:=by rw [decide_eq_true_iff];omega
    have HL:=qh (P.d6h h1 h2)
    go_wp2_with (go_at_call 187;refine (l1In _ _ _ _).mono ?_;rintro e w' ⟨rfl,rfl⟩)
    exact e3m
  .have i1:¬(k:Int)<(s.length:Int):=by omega
   exact zq140
theorem e2q (s:P.St) (w:World) (hs:s.text.length<=2^40) :
 Cz 340 #[stV s] w λe w'=>e=.returned (.bool (P.stOk s))/\Bl w w':=by
 obtain⟨t,jn,gl,cp,wd⟩:=s;simp only at hs;refine zm42 ?_;intro HB0 hf;obtain⟨q1,hq1⟩:∃q,t.all P.prn=q:=⟨_,rfl⟩;obtain⟨q2,hq2⟩:∃q,decide (0<=cp/\cp<=2)=q:=⟨_,rfl⟩;have HQ1:=qh hq1;have HQ2:=qh hq2;by_cases h0:(t.length:Int)<=2000
 .rw [decide_eq_true h0,hq1,hq2]at hf;have HF:=qh hf;clear hf hq1 hq2
  cases q1
  .go_enter func340,ntmps340
   go_wp2_with (first|(go_at_call 369;refine (b5i _ _ hs).mono ?_;rintro e w' ⟨rfl,rfl⟩;rw [HQ1.o])|(go_at_call 187;refine (l1In _ _ _ _).mono ?_;rintro e w' ⟨rfl,rfl⟩))
   go_ret;exact⟨a0a (by rw [HF.o];rfl),HB0.o⟩
  .cases q2
   .go_enter func340,ntmps340
    go_wp2_with (first|(go_at_call 369;refine (b5i _ _ hs).mono ?_;rintro e w' ⟨rfl,rfl⟩;rw [HQ1.o])|(go_at_call 187;refine (l1In _ _ _ _).mono ?_;rintro e w' ⟨rfl,rfl⟩;try rw [HQ2.o]))
    go_ret;exact⟨a0a (by rw [HF.o];rfl),HB0.o⟩
   .go_enter func340,ntmps340
    go_wp2_with (first|(go_at_call 369;refine (b5i _ _ hs).mono ?_;rintro e w' ⟨rfl,rfl⟩;rw [HQ1.o])|(go_at_call 187;refine (l1In _ _ _ _).mono ?_;rintro e w' ⟨rfl,rfl⟩;try rw [HQ2.o]))
    go_ret;exact⟨a0a (by rw [HF.o];simp),HB0.o⟩
 .rw [decide_eq_false h0]at hf;have HF:=qh hf;clear hf hq1 hq2
  go_enter func340,ntmps340
  go_wp2;go_ret;exact⟨a0a (by rw [HF.o];rfl),HB0.o⟩
theorem e2n (w:World) :
 Cz 337 #[.string (S [])] w λe w'=>e=.returned (stV P.init)/\Bl w w':=by
 go_enter func337,ntmps337
 go_wp2
 refine bodyPost_ret (v:=stV P.init) (by simp [results,results337,go_sem];exact⟨rfl,rfl,rfl,rfl,rfl⟩) rfl ⟨rfl,?_⟩
 exact (Below.refl w.heap.size w).alloc lZ _
theorem e1q {b:UInt8} (h:P.lower b=true):((b-32).toNat:Int)=(b.toNat:Int)-32/\97<=(b.toNat:Int)/\(b.toNat:Int)<=122:=by
 unfold P.lower at h;simp only [Bool.and_eq_true,decide_eq_true_eq]at h;have h1:32<=b:=by rw [UInt8.le_iff_toNat_le];show 32<=b.toNat;omega
 rw [UInt8.toNat_sub_of_le _ _ h1];refine⟨?_,h.1,h.2⟩
 show ((b.toNat-32:Nat):Int)=_
 omega
theorem e1o {b:UInt8} (h:P.upB b=true):((b+32).toNat:Int)=(b.toNat:Int)+32/\65<=(b.toNat:Int)/\(b.toNat:Int)<=90:=by
 unfold P.upB at h;simp only [Bool.and_eq_true,decide_eq_true_eq]at h;rw [UInt8.toNat_add];refine⟨?_,h.1,h.2⟩
 show (((b.toNat+32) % 2^8:Nat):Int)=_
 omega
def a0t (b:Nat) (s:P.St) (v:World):Prop:=
 (v.cell? ⟨b,0,none⟩=some (.string (S s.text))/\v.cell? ⟨b,1,none⟩=some (.bool s.a0u)/\v.cell? ⟨b,2,none⟩=some (.bool s.a4j)/\v.cell? ⟨b,3,none⟩=some (.int .i64 s.cap)/\v.cell? ⟨b,4,none⟩=some (.int .i64 (s.word:Int))) /\
 (v.frozen? ⟨b,0,none⟩=false/\v.frozen? ⟨b,1,none⟩=false/\v.frozen? ⟨b,2,none⟩=false/\v.frozen? ⟨b,3,none⟩=false/\v.frozen? ⟨b,4,none⟩=false)/\b<v.heap.size
theorem a0t.a0b {X:Blk} (h:a0t b s v) (hc:Chg X v v') (hX:¬X b):a0t b s v':=by
 obtain⟨⟨a0,a1,a2,a3,a4⟩,⟨f0,f1,f2,f3,f4⟩,hl⟩:=h
 exact⟨⟨(hc.cell (p:=⟨b,0,none⟩) hl hX).trans a0,(hc.cell (p:=⟨b,1,none⟩) hl hX).trans a1,(hc.cell (p:=⟨b,2,none⟩) hl hX).trans a2,(hc.cell (p:=⟨b,3,none⟩) hl hX).trans a3,(hc.cell (p:=⟨b,4,none⟩) hl hX).trans a4⟩,
  ⟨(hc.frozen (p:=⟨b,0,none⟩) hl hX).trans f0,(hc.frozen (p:=⟨b,1,none⟩) hl hX).trans f1,(hc.frozen (p:=⟨b,2,none⟩) hl hX).trans f2,(hc.frozen (p:=⟨b,3,none⟩) hl hX).trans f3,(hc.frozen (p:=⟨b,4,none⟩) hl hX).trans f4⟩,Nat.lt_of_lt_of_le hl hc.size⟩
theorem a0t.below (h:a0t b s v) (hb:Bl v v'):a0t b s v':=h.a0b (Below.chg hb λ_=>False) λh=>h
theorem a0t.new (s:P.St) (v:World):a0t v.heap.size s (v.alloc (a1c s)):=by
 refine⟨⟨?_,?_,?_,?_,?_⟩,⟨?_,?_,?_,?_,?_⟩,?_⟩<;>go_simp
theorem far {i j:Nat} (h:i≠j):(⟨b,i,none⟩:Addr)≠⟨b,j,none⟩:=by intro e;injection e with _ e;exact h e
theorem a0t.text (h:a0t b s v) (t:Str):a0t b { s with text:=t } (v.setCell ⟨b,0,none⟩ (.string (S t))):=by
 obtain⟨⟨a0,a1,a2,a3,a4⟩,⟨f0,f1,f2,f3,f4⟩,hl⟩:=h;refine⟨⟨World.cell?_setCell_same _ _ _ a0,?_,?_,?_,?_⟩,⟨by simpa using f0,by simpa using f1,by simpa using f2,by simpa using f3,by simpa using f4⟩,by simpa [World.setCell] using hl⟩
 all_goals (rw [World.cell?_setCell_other _ _ _ _ (far dZ)];assumption)
theorem a0t.a0u (h:a0t b s v) (x:Bool):a0t b { s with a0u:=x } (v.setCell ⟨b,1,none⟩ (.bool x)):=by
 obtain⟨⟨a0,a1,a2,a3,a4⟩,⟨f0,f1,f2,f3,f4⟩,hl⟩:=h;refine⟨⟨?_,World.cell?_setCell_same _ _ _ a1,?_,?_,?_⟩,⟨by simpa using f0,by simpa using f1,by simpa using f2,by simpa using f3,by simpa using f4⟩,by simpa [World.setCell] using hl⟩
 all_goals (rw [World.cell?_setCell_other _ _ _ _ (far dZ)];assumption)
theorem a0t.a4j (h:a0t b s v) (x:Bool):a0t b { s with a4j:=x } (v.setCell ⟨b,2,none⟩ (.bool x)):=by
 obtain⟨⟨a0,a1,a2,a3,a4⟩,⟨f0,f1,f2,f3,f4⟩,hl⟩:=h;refine⟨⟨?_,?_,World.cell?_setCell_same _ _ _ a2,?_,?_⟩,⟨by simpa using f0,by simpa using f1,by simpa using f2,by simpa using f3,by simpa using f4⟩,by simpa [World.setCell] using hl⟩
 all_goals (rw [World.cell?_setCell_other _ _ _ _ (far dZ)];assumption)
theorem a0t.cap (h:a0t b s v) (x:Int):a0t b { s with cap:=x } (v.setCell ⟨b,3,none⟩ (.int .i64 x)):=by
 obtain⟨⟨a0,a1,a2,a3,a4⟩,⟨f0,f1,f2,f3,f4⟩,hl⟩:=h;refine⟨⟨?_,?_,?_,World.cell?_setCell_same _ _ _ a3,?_⟩,⟨by simpa using f0,by simpa using f1,by simpa using f2,by simpa using f3,by simpa using f4⟩,by simpa [World.setCell] using hl⟩
 all_goals (rw [World.cell?_setCell_other _ _ _ _ (far dZ)];assumption)
theorem a0t.word (h:a0t b s v) (x:Nat):a0t b { s with word:=x } (v.setCell ⟨b,4,none⟩ (.int .i64 (x:Int))):=by
 obtain⟨⟨a0,a1,a2,a3,a4⟩,⟨f0,f1,f2,f3,f4⟩,hl⟩:=h;refine⟨⟨?_,?_,?_,?_,World.cell?_setCell_same _ _ _ a4⟩,⟨by simpa using f0,by simpa using f1,by simpa using f2,by simpa using f3,by simpa using f4⟩,by simpa [World.setCell] using hl⟩
 all_goals (rw [World.cell?_setCell_other _ _ _ _ (far dZ)];assumption)
theorem c6o (s:Str) (k:Int) (w:World) (hk:0<=k/\k<=2) (hs:s.length<=2^40) :
 Cz 368 #[.string (S s),.int .i64 k] w λe w'=>e=.returned (.string (S (P.a3r s k)))/\Bl w w':=by
 have h3:k=0\/k=1\/k=2:=by omega
 cases s with
 |nil=>
  have HC:=qh (show P.a3r [] k=[] by rcases h3 with rfl|rfl|rfl<;>rfl)
  go_enter func368,ntmps368
  go_wp2;go_ret;exact⟨a1v HC.o.symm,Below.refl _ _⟩
 |cons b t=>
  have hn:((b::t:Str)==[])=false:=rfl;have hsl:t.length+1<=2^40:=hs;have j1:(1:Int)<=(t.length:Int)+1:=by omega
  have j2:¬9223372036854775807<1+t.length:=by omega
  clear hs
  rcases h3 with rfl|rfl|rfl
  .have HC:Hq (P.a3r (b::t) 0=[b]++t):=⟨rfl⟩;exact zq11
  .by_cases h1:97<=(b.toNat:Int)
   .by_cases h2:(b.toNat:Int)<=122
    .have hl:=P.b2g h1 h2;have HC:=qh (show P.a3r (b::t) 1=[b-32]++t by show P.upper (b::t)=_;rw [P.c4h hl];rfl);obtain⟨h4,_⟩:=e1q hl;have e1:IntKind.u8.wrap ((b.toNat:Int)-32)=((b-32).toNat:Int):=by rw [h4,IntKind.wrap_u8];omega
     clear hl h4
     go_enter func368,ntmps368
     have hback:=run_convert_bytes_back (P:=Tryz.prog) ((w.alloc (.cells #[.int .u8 ((b-32).toNat:Int)] 5)).drew) 22 9 5 ⟨w.heap.size,0,none⟩ 1 [b-32] underlying22 underlying5 underlying9 (by
      intro j hj
      have:j=0:=by simpa using hj
      subst this
      rw [add0]
      go_simp)
     exact zq18
    .have HC:Hq (P.a3r (b::t) 1=[b]++t):=⟨P.b5k (P.a6h (.inr oZ))⟩;exact zq11
   .have HC:Hq (P.a3r (b::t) 1=[b]++t):=⟨P.b5k (P.a6h (.inl oZ))⟩;exact zq11
  .by_cases h1:65<=(b.toNat:Int)
   .by_cases h2:(b.toNat:Int)<=90
    .have hl:=P.d7a h1 h2;have HC:=qh (show P.a3r (b::t) 2=[b+32]++t by show P.a1q (b::t)=_;rw [P.b6p hl];rfl);obtain⟨h4,_⟩:=e1o hl;clear hl
     go_enter func368,ntmps368
     have hback:=run_convert_bytes_back (P:=Tryz.prog) ((w.alloc (.cells #[.int .u8 ((b.toNat:Int)+32)] 5)).drew) 22 9 5 ⟨w.heap.size,0,none⟩ 1 [b+32] underlying22 underlying5 underlying9 (by
      intro j hj
      have:j=0:=by simpa using hj
      subst this
      rw [add0]
      show _=some (Value.int IntKind.u8 (((b+32).toNat:Nat):Int))
      rw [h4]
      go_simp)
     exact zq18
    .have HC:Hq (P.a3r (b::t) 2=[b]++t):=⟨P.b0b (P.c9e (.inr oZ))⟩;exact zq11
   .have HC:Hq (P.a3r (b::t) 2=[b]++t):=⟨P.b0b (P.c9e (.inl oZ))⟩;exact zq11
abbrev st0:P.St:=⟨[],false,false,0,0⟩
def SPut (w:World) (s:P.St) (v:World):Prop:=a0t w.heap.size s v/\a0t (w.heap.size+1) st0 v/\Bl w v
theorem SPut.below {w:World} (h:SPut w s v) (hb:Bl v v'):SPut w s v':=⟨h.1.below hb,h.2.1.below hb,h.2.2.trans (hb.mono h.2.2.size)⟩
theorem d0c (s:P.St) (t:Str) (w:World) (hc:0<=s.cap/\s.cap<=2) (hl:s.text.length<=2^30) (ht:t.length<=2^30) :
 Cz 367 #[stV s,.string (S t)] w λe w'=>e=.returned (stV (P.put s t))/\Bl w w':=by
 obtain⟨tx,jn,gl,cp,wd⟩:=s
 simp only at hc hl
 have HCP:=qh hc
 clear hc
 cases jn
 .skip;have hb0:Bl w ((w.alloc (a1c ⟨(tx++[32]),false,gl,cp,tx.length+1⟩)).alloc (a1c st0)):=((Below.refl w.heap.size w).alloc lZ _).alloc sZ _;have HX1:=qh (((a0t.new ⟨(tx++[32]),false,gl,cp,tx.length+1⟩ w).below (bZ.alloc lZ (a1c st0))).below bZ.drew);have HR1:=qh (show a0t (w.heap.size+1) st0 ((w.alloc (a1c ⟨(tx++[32]),false,gl,cp,tx.length+1⟩)).alloc (a1c st0)).drew by have h:=(a0t.new st0 (w.alloc (a1c ⟨(tx++[32]),false,gl,cp,tx.length+1⟩))).below bZ.drew;simpa using h);have HB1:=qh hb0.drew;have hcl:=P.b3f t cp;have j1:¬9223372036854775807<tx.length+1+(P.a3r t cp).length:=by omega
  have j2:¬9223372036854775807<tx.length+(P.a3r t cp).length:=by omega
  have j3:tx.length+(P.a3r t cp).length<=9223372036854775807:=by omega
  have j4:tx.length+1+(P.a3r t cp).length<=9223372036854775807:=by omega
  clear hb0 hcl;go_enter func367,ntmps367;go_upto_region 4 with fail;refine Left.region [8] (S:=SPut w ⟨(tx++[32]),false,gl,cp,tx.length+1⟩) kZ ⟨HX1.o,HR1.o,HB1.o⟩ (λhS0=>?_);clear HX1 HR1 HB1;generalize (World.drew _)=v0 at *;have HS0:=qh hS0;refine lk10 0 hS0 ?_;refine lk10 1 hS0 ?_;refine lk10 2 hS0 ?_;refine lk10 3 hS0 ?_;refine lk10 4 hS0 ?_;refine lrd 5 λK hK=>?_;go_simp;refine (c6o t cp _ HCP.o oZ).mono ?_;rintro e v1 ⟨rfl,hb⟩;have HS2:=qh (HS0.o.below hb);refine a1r hK dZ HS2.o (λhS1=>?_);clear hK K hb HS0 hS0;refine zm0 ?_;refine lk10 6 hS1 ?_;refine lk10 7 hS1 ?_;refine lrd 8 λK hK=>?_;obtain⟨⟨a0,a1,a2,a3,a4⟩,⟨f0,f1,f2,f3,f4⟩,hlt⟩:=HS2.o.1;go_simp;refine a2p hK dZ ?_;clear hK K;refine zm0 ?_;refine Left.done kZ ?_ _;obtain⟨⟨b0,b1,b2,b3,b4⟩,⟨g0,g1,g2,g3,g4⟩,hlr⟩:=HS2.o.2.1;simp only at a0 a1 a2 a3 a4 b0 b1 b2 b3 b4;go_wp2;refine bodyPost_ret (v:=stV (P.put ⟨tx,false,gl,cp,wd⟩ t)) (by simp [results,results367,go_sem,b0,b1,b2,b3,b4,P.put,P.base]) rfl ⟨rfl,?_⟩;repeat (refine Below.setCell ?_ sZ _)
  exact HS2.o.2.2
 .skip;have hb0:Bl w ((w.alloc (a1c ⟨tx,true,gl,cp,tx.length⟩)).alloc (a1c st0)):=((Below.refl w.heap.size w).alloc lZ _).alloc sZ _;have HX1:=qh (((a0t.new ⟨tx,true,gl,cp,tx.length⟩ w).below (bZ.alloc lZ (a1c st0))).below bZ.drew);have HR1:=qh (show a0t (w.heap.size+1) st0 ((w.alloc (a1c ⟨tx,true,gl,cp,tx.length⟩)).alloc (a1c st0)).drew by have h:=(a0t.new st0 (w.alloc (a1c ⟨tx,true,gl,cp,tx.length⟩))).below bZ.drew;simpa using h);have HB1:=qh hb0.drew;have hcl:=P.b3f t cp;have j1:¬9223372036854775807<tx.length+1+(P.a3r t cp).length:=by omega
  have j2:¬9223372036854775807<tx.length+(P.a3r t cp).length:=by omega
  have j3:tx.length+(P.a3r t cp).length<=9223372036854775807:=by omega
  have j4:tx.length+1+(P.a3r t cp).length<=9223372036854775807:=by omega
  clear hb0 hcl;go_enter func367,ntmps367;go_upto_region 4 with fail;refine Left.region [8] (S:=SPut w ⟨tx,true,gl,cp,tx.length⟩) kZ ⟨HX1.o,HR1.o,HB1.o⟩ (λhS0=>?_);clear HX1 HR1 HB1;generalize (World.drew _)=v0 at *;have HS0:=qh hS0;refine lk10 0 hS0 ?_;refine lk10 1 hS0 ?_;refine lk10 2 hS0 ?_;refine lk10 3 hS0 ?_;refine lk10 4 hS0 ?_;refine lrd 5 λK hK=>?_;go_simp;refine (c6o t cp _ HCP.o oZ).mono ?_;rintro e v1 ⟨rfl,hb⟩;have HS2:=qh (HS0.o.below hb);refine a1r hK dZ HS2.o (λhS1=>?_);clear hK K hb HS0 hS0;refine zm0 ?_;refine lk10 6 hS1 ?_;refine lk10 7 hS1 ?_;refine lrd 8 λK hK=>?_;obtain⟨⟨a0,a1,a2,a3,a4⟩,⟨f0,f1,f2,f3,f4⟩,hlt⟩:=HS2.o.1;go_simp;refine a2p hK dZ ?_;clear hK K;refine zm0 ?_;refine Left.done kZ ?_ _;obtain⟨⟨b0,b1,b2,b3,b4⟩,⟨g0,g1,g2,g3,g4⟩,hlr⟩:=HS2.o.2.1;simp only at a0 a1 a2 a3 a4 b0 b1 b2 b3 b4;go_wp2;refine bodyPost_ret (v:=stV (P.put ⟨tx,true,gl,cp,wd⟩ t)) (by simp [results,results367,go_sem,b0,b1,b2,b3,b4,P.put,P.base]) rfl ⟨rfl,?_⟩;repeat (refine Below.setCell ?_ sZ _)
  exact HS2.o.2.2
end Go.Proofs.YtggfdnopminemaaGreatDoor
