import Derived.Test.YtgcjpahhljmlmaaGreatDoorLParsesY4
set_option maxRecDepth 100000
set_option maxHeartbeats 4000000
namespace Go.Proofs.YtgcjpahhljmlmaaGreatDoor
open Go.Proofs.Tryz
section
open Go.Eng Go.Pc Go
open Go.Xp hiding B E8
open Go.Ty (Ty Vr eqT tyV E9 PrOk VOk prL encV D8 H3 E5 eqI a2S a3a b2m)
open Go.Lx (encB C0)
theorem b7s{m:View}{h:Lr}(hg:Glob m)(x:Sp)(hO:SOk m h x):CT prog 102 [spV x] h m (A5 h (.bool (spP x))):=by
 have hp2:x.ty.proto.length<=9223372036854775807:=qr hO.ty.p (by decide);have hnr:=hO.nr;have hfr:=hO.fr;have hsr:=SRd.of hO;have hET:=hO.e.t;have hEW:=hO.e.w;have zr:∀h',SRd m h' B4:=λh'=>b5F m h'
 refine cB [1,2,3,4,13,14,23,39,55,63] func102 λ_=>?_;refine xX λb1=>?_
 refine ZZ [1,5] ?_;refine xW λb3=>?_;refine Z1 ?_;refine xG (I8 (vs:=a9f) W5 rfl rfl Ev.global rfl (λj v hj=>by rw[qI];exact hg.sOne j v hj)) ?_;refine xW λb4=>?_
 refine Z2 ?_;refine kP2 [1,3,4,13] ?_;refine D6 KKh [1,3,4] rfl (λF' h'=>∃w:Sp,∃fb:Bool,∃lo:Int,∃hi:Int,(((1<=x.k/\x.k<=5)/\w=a1O x/\SRd m h w)/\(fb=a1l x/\(lo=1/\hi=if x.k=1 then 8 else 1)))/\F'=[(5,.bool fb)]/\.pt b4 (.cells [.int .i64 lo,.int .i64 hi].toArray 172 (0,0))::.pt b3 (.cells (spE w).toArray 44 (0,0))::.pt b1 (.cells (spE x).toArray 44 (0,0))::h=h') ?_ ?_;refine y3 ?_ ?_<;>intro c14
 refine jE ?_;refine WC.take (r:=.pt b4 _) De ?_;refine F4 [3] (.op 0 (.op 1 (.op 2 (.op 3 .nil)))) [4,5] _ [_] C9 (λ_ _ _ _ _ h=>h) [] (by kernel_rfl) ?_;refine yG rfl (I8 (vs:=a8s) W5 rfl rfl Ev.global rfl (λj v hj=>by rw[qI];exact hg.sSome j v hj)) ?_;refine kA2 ?_;refine SR.store rfl rfl rfl Et Et rfl rfl rfl rfl Up ?_;refine nS ?_;refine ZZ [2,2] ?_;refine xf (E1 Et) (Ty9.may_ct x.ty _ _ hg hp2) ?_;refine kA1 ?_;exact WL.nil (mN [(5,.bool (Go.Ty.may x.ty))] (.pt b4 (.cells [.int .i64 1,.int .i64 8].toArray 172 (0,0))::.pt b3 (.cells (spE (.mk x.k x.ty x.names A0 false A2 A2 none 0 [])).toArray 44 (0,0))::.pt b1 (.cells (spE x).toArray 44 (0,0))::h) ⟨.mk x.k x.ty x.names A0 false A2 A2 none 0 [],Go.Ty.may x.ty,1,8,⟨⟨by omega,by unfold a1O;rw[if_pos c14],⟨(zr h).b,hsr.nr,(zr h).e,(zr h).v,(zr h).fr⟩⟩,by unfold a1l;rw[if_pos c14],rfl,by rw[if_pos c14]⟩,rfl,rfl⟩)
 refine y3 ?_ ?_<;>intro c23
 refine jE ?_;refine WC.take (r:=.pt b3 _) De ?_;refine F4 [5] (.op 0 (.op 1 (.op 2 (.op 3 (.op 4 (.op 5 .nil)))))) [6,7] _ [_] C9 (λ_ _ _ _ _ h=>h) [] (by kernel_rfl) ?_;refine kA5 ?_;refine SR.store rfl rfl rfl Et Et rfl rfl rfl rfl Up ?_;refine a0V (H:=_) rfl (qF _ _ _) ?_;refine ZZ [2,2] ?_;refine xf (E1 Et) (a6O x.ty _ _ hg hp2) ?_;refine kA3 ?_;refine A3 (GU.t rfl rfl) (λhc=>⟨Ef,(E1 (Eg hc)),may_ct hg x.e _ (hET.mono Sb) hEW⟩) Lb ?_;refine kA2 ?_
 exact WL.nil (mN [(5,.bool (N4 x.ty&&K0 x.e))] (.pt b4 (.cells [.int .i64 1,.int .i64 1].toArray 172 (0,0))::.pt b3 (.cells (spE (.mk x.k x.ty x.names x.e false A2 A2 none 0 [])).toArray 44 (0,0))::.pt b1 (.cells (spE x).toArray 44 (0,0))::h) ⟨.mk x.k x.ty x.names x.e false A2 A2 none 0 [],N4 x.ty&&K0 x.e,1,1,⟨⟨by omega,by unfold a1O;rw[if_neg c14,if_pos c23],⟨(zr h).b,hsr.nr,hsr.e,(zr h).v,(zr h).fr⟩⟩,by unfold a1l;rw[if_neg c14,if_pos c23],rfl,by rw[if_neg c14]⟩,rfl,rfl⟩);refine y3 ?_ ?_<;>intro c39
 refine jE ?_;refine WC.take (r:=.pt b3 _) De ?_;refine F4 [5] (.op 0 (.op 1 (.op 2 (.op 3 (.op 4 (.op 5 .nil)))))) [6,7] _ [_] C9 (λ_ _ _ _ _ h=>h) [] (by kernel_rfl) ?_;refine kA5 ?_;refine SR.store rfl rfl rfl Et Et rfl rfl rfl rfl Up ?_;refine a0V (H:=_) rfl (qF _ _ _) ?_;refine ZZ [2,2] ?_;refine xf (E1 Et) (a6O x.ty _ _ hg hp2) ?_;refine kA3 ?_;refine A3 (GU.t rfl rfl) (λhc=>⟨Ef,(E1 (Eg hc)),a5V hg x.e (hO.e.mono Sb)⟩) Lb ?_;refine kA2 ?_
 exact WL.nil (mN [(5,.bool (N4 x.ty&&L5 x.e))] (.pt b4 (.cells [.int .i64 1,.int .i64 1].toArray 172 (0,0))::.pt b3 (.cells (spE (.mk x.k x.ty x.names x.e false A2 A2 none 0 [])).toArray 44 (0,0))::.pt b1 (.cells (spE x).toArray 44 (0,0))::h) ⟨.mk x.k x.ty x.names x.e false A2 A2 none 0 [],N4 x.ty&&L5 x.e,1,1,⟨⟨by omega,by unfold a1O;rw[if_neg c14,if_neg c23,if_pos c39],⟨(zr h).b,hsr.nr,hsr.e,(zr h).v,(zr h).fr⟩⟩,by unfold a1l;rw[if_neg c14,if_neg c23,if_pos c39],rfl,by rw[if_neg c14]⟩,rfl,rfl⟩);refine y3 ?_ ?_<;>intro c55
 refine ZZ [4,2] ?_;refine xf (E1 Et) (Ty9.mayProto_ct x.cs x.vs.a x.vs.l.length x.vs.c x.vs.l _ _ hg (hO.v.mono Vl Sb)) ?_;refine kA1 ?_;exact WL.nil (mN [(5,.bool (Go.Ty.mayPr x.cs x.vs.l))] (.pt b4 (.cells [.int .i64 1,.int .i64 1].toArray 172 (0,0))::.pt b3 (.cells (spE (.mk x.k Go.Ty.zeroT x.names A0 x.cs x.vs A2 none 0 [])).toArray 44 (0,0))::.pt b1 (.cells (spE x).toArray 44 (0,0))::h) ⟨.mk x.k Go.Ty.zeroT x.names A0 x.cs x.vs A2 none 0 [],Go.Ty.mayPr x.cs x.vs.l,1,1,⟨⟨by omega,by unfold a1O;rw[if_neg c14,if_neg c23,if_neg c39,if_pos c55],⟨(zr h).b,hsr.nr,(zr h).e,hsr.v,(zr h).fr⟩⟩,by unfold a1l;rw[if_neg c14,if_neg c23,if_neg c39,if_pos c55],rfl,by rw[if_neg c14]⟩,rfl,rfl⟩);refine y3 ?_ ?_<;>intro c63
 refine jE ?_;refine WC.take (r:=.pt b3 _) De ?_;refine F4 [5] (.op 0 (.op 1 (.op 2 (.op 3 (.op 4 (.op 5 .nil)))))) [6,7] _ [_] C9 (λ_ _ _ _ _ h=>h) [] (by kernel_rfl) ?_;refine kA5 ?_;refine SR.store rfl rfl rfl Et Et rfl rfl rfl rfl Up ?_;refine a0V (H:=_) rfl (qF _ _ _) ?_;refine ZZ [2,7] ?_;refine zG (λ_=>PO.build W5 rfl rfl rfl Eb (by exact rfl)) ?_;refine A3 (GU.t rfl rfl) (λhc=>⟨Ef,(E3 (Eg hc) (Eg hc) Ef),b8I 173 [] foP 0 8 _ _ _ x.fs.l _ _ (λf hf h' hh=>c1B hg f (hO.fw f hf)) (hfr.mono Vl Sb)⟩) Lb ?_;refine kA2 ?_
 exact WL.nil (mN [(5,.bool (((x.bl.length:Int)==1)&&O2 x.fs.l 0 8 foP))] (.pt b4 (.cells [.int .i64 1,.int .i64 1].toArray 172 (0,0))::.pt b3 (.cells (spE (.mk x.k Go.Ty.zeroT x.names A0 false A2 x.fs x.ba x.bc x.bl)).toArray 44 (0,0))::.pt b1 (.cells (spE x).toArray 44 (0,0))::h) ⟨.mk x.k Go.Ty.zeroT x.names A0 false A2 x.fs x.ba x.bc x.bl,((x.bl.length:Int)==1)&&O2 x.fs.l 0 8 foP,1,1,⟨⟨by omega,by unfold a1O;rw[if_neg c14,if_neg c23,if_neg c39,if_neg c55],⟨hsr.b,hsr.nr,(zr h).e,(zr h).v,hsr.fr⟩⟩,by unfold a1l;rw[if_neg c14,if_neg c23,if_neg c39,if_neg c55],rfl,by rw[if_neg c14]⟩,rfl,rfl⟩);refine Z1 ?_;refine wT h ?_;exact⟨by unfold spP;rw[if_neg (by omega)],rfl⟩;rintro _ _ ⟨w,fb,lo,hi,⟨⟨hkk,hw,hwr⟩,hfb,hlo,hhi⟩,rfl,rfl⟩;refine A9 rfl ?_;subst hlo;refine kA4 ?_;refine zG (λ_=>pA W5) ?_
 refine A3 (GU.t rfl rfl) (λhc=>⟨Ef,(E3 (Eg hc) (Eg hc) Ef),b9S 155 [] Go.Lx.name 1 hi _ _ _ x.names.l _ _ (λs hs h' hh=>a0S s _ _ hg (qr (hO.nw s hs) (by decide))) (hnr.mono Vl Sb)⟩) Lb ?_;refine kA2 ?_;refine zG (λ_=>pA a4R) ?_;refine zG (λ_=>pA a4R) ?_;refine A3 (GU.t rfl rfl) (λhc=>⟨Ef,(E2 (Eg hc) (Eg hc)),b2b x w (hsr.mono Sb) (hwr.mono Sb)⟩) Lb ?_;refine Z2 ?_;refine wT h ?_;exact⟨by unfold spP;rw[if_pos hkk,<-hfb,<-hw,<-hhi],rfl⟩
theorem b9O{m:View}{h:Lr}(hg:Glob m)(b3:Nat)(u:Us)(x:Gu)(hb:Res.pt b3 (.cells (usE u).toArray 203 (0,0))∈h)(hO:GOk m h x):CT prog 150 [guV x,.pointer (some ⟨b3,0,none⟩)] h m (A5 h (.bool (inG u x))):=by
 refine cB [1,2,3] func150 λ_=>?_;refine xX λb2=>?_
 refine ZZ [1,3] ?_;refine xG (C8 c6a rfl Et (qD _ hb) rfl) ?_;refine kA5 ?_;refine zG (λhc=>C8 c6a rfl (Eg hc) (qD _ hb) rfl) ?_;refine kA3 ?_;refine zG (λ_=>pA a4C) ?_;refine A3 (GU.t rfl rfl) (λhc=>⟨Ef,(E1 (Eg hc)),c07 hg x (hO.mono Sb)⟩) Lb ?_;refine Z2 ?_;refine wT h ?_;exact⟨rfl,rfl⟩
theorem c02{m:View}{h:Lr}(n:Int):CT prog 161 [.int .i64 n] h m (A5 h (.bool (decide (n>=0)&&decide (n<8)))):=by
 refine cB [0,2] func161 λ_=>?_;refine ZZ [1,7,0] ?_;refine wT h ?_;exact⟨rfl,rfl⟩
theorem a9i{m:View}{h:Lr}(hg:Glob m)(p:Pr)(hO:P1 m h p):CT prog 77 [prV p] h m (A5 h (.bool (W2 p))):=by
 have hn2:p.name.length<=9223372036854775807:=qr hO.n (by decide);have htg:=hO.tg.rd;have hex:=hO.ex.rd;have hgr:=hO.g;have hpn:=hO.pn;have hsr:=SRd.of hO.sp;refine cB [1,2,3,4,5,6,20,27,31] func77 λ_=>?_;refine xX λb1=>?_
 refine ZZ [1,2] ?_;refine xf (E1 Et) (b9G hg p.k) ?_;refine kA3 ?_;refine xW λb3=>?_;refine ZZ [2,5] ?_;refine A3 (GU.f rfl rfl) (λhc=>⟨Ef,(E1 (Eg hc)),c8K hg p.rep hO.rn (hO.rb.mono Sb) (hO.rc.mono Sb)⟩) Lb ?_;refine y2 ?_ ?_<;>intro c20
 have hR:W2 p=false:=by unfold W2;rw[if_pos (show(!(C4 p.k).2||!a7n p.rep)=true from c20)]
 refine Z1 ?_;refine wT h ?_;exact⟨by rw[hR],rfl⟩;have hR:W2 p=if p.rep.name !=[]then(if !(C4 p.k).1.rep then false else a0k p (c0u (C4 p.k).1))else a0k p (C4 p.k).1:=by unfold W2;rw[if_neg (by rw[show(!(C4 p.k).2||!a7n p.rep)=false from c20];decide)]
 refine ZZ [0,3] ?_;refine xG (P2 Et Ek) ?_;refine kP0 [1,3,24] ?_;refine D6 KKh [1,3] rfl (λF' h'=>∃u:Us,(W2 p=a0k p u)/\F'=[]/\.pt b3 (.cells (usE u).toArray 203 (0,0))::.pt b1 (.cells (prE p).toArray 46 (0,0))::h=h') ?_ ?_;refine jE ?_;refine wc ?_ ?_<;>intro c24
 rw[if_pos (show(p.rep.name !=[])=true from c24)]at hR;refine Z3 ?_;refine wc ?_ ?_<;>intro c27
 rw[if_pos (show(!(C4 p.k).1.rep)=true from c27)]at hR;refine Z1 ?_;refine wT h ?_;exact⟨by rw[hR],rfl⟩;rw[if_neg (by rw[show(!(C4 p.k).1.rep)=false from c27];decide)]at hR;refine ZZ [0,2] ?_;refine xG (I8 (vs:=c4i) W5 rfl rfl Ev.global rfl (λj v hj=>by rw[qI];exact hg.sAll j v hj)) ?_;refine xG (U4 W5 (by kernel_rfl) (by kernel_rfl) Et Et rfl) ?_;refine y0 ?_ ?_<;>intro c31
 have hA:c2P (C4 p.k).1=true:=by unfold c2P;simpa using c31
 have hR:W2 p=a0k p { (C4 p.k).1 with p0:=1,p1:=1 }:=by rw[hR];unfold c0u;rw[if_pos hA]
 refine j0 ?_;refine xG (I8 (vs:=a9f) W5 rfl rfl Ev.global rfl (λj v hj=>by rw[qI];exact hg.sOne j v hj)) ?_;refine kA2 ?_;exact WL.nil (mN [] (.pt b3 (.cells (usE ({ (C4 p.k).1 with p0:=1,p1:=1 })).toArray 203 (0,0))::.pt b1 (.cells (prE p).toArray 46 (0,0))::h) ⟨{ (C4 p.k).1 with p0:=1,p1:=1 },hR,rfl,rfl⟩);have hA:¬c2P (C4 p.k).1=true:=by unfold c2P;simpa using c31
 have hR:W2 p=a0k p { (C4 p.k).1 with g0:=1,g1:=1 }:=by rw[hR];unfold c0u;rw[if_neg hA]
 refine j0 ?_;refine xG (I8 (vs:=a9f) W5 rfl rfl Ev.global rfl (λj v hj=>by rw[qI];exact hg.sOne j v hj)) ?_;refine kA2 ?_;exact WL.nil (mN [] (.pt b3 (.cells (usE ({ (C4 p.k).1 with g0:=1,g1:=1 })).toArray 203 (0,0))::.pt b1 (.cells (prE p).toArray 46 (0,0))::h) ⟨{ (C4 p.k).1 with g0:=1,g1:=1 },hR,rfl,rfl⟩);rw[if_neg (by rw[show(p.rep.name !=[])=false from c24];decide)]at hR;exact WC.skip (mN [] (.pt b3 (.cells (usE ((C4 p.k).1)).toArray 203 (0,0))::.pt b1 (.cells (prE p).toArray 46 (0,0))::h) ⟨(C4 p.k).1,hR,rfl,rfl⟩);rintro _ _ ⟨u,hu,rfl,rfl⟩;refine A9 rfl ?_;refine kA1 ?_;refine xW λb5=>?_
 refine Z1 ?_;refine kP2 [1,3,5,38] ?_;refine D6 KKh [1,3,5] rfl (λF' h'=>∃lo:Int,∃hi:Int,(lo=(if u.procs then(p.ll.length:Int)else 0)/\hi=(if u.procs then(p.ll.length:Int)else 0))/\F'=[]/\.pt b5 (.cells [.int .i64 lo,.int .i64 hi].toArray 172 (0,0))::.pt b3 (.cells (usE u).toArray 203 (0,0))::.pt b1 (.cells (prE p).toArray 46 (0,0))::h=h') ?_ ?_;refine jE ?_;refine wc ?_ ?_<;>intro c38
 refine kA8 ?_;exact WL.nil (mN [] (.pt b5 (.cells [.int .i64 ((p.ll.length:Int)),.int .i64 ((p.ll.length:Int))].toArray 172 (0,0))::.pt b3 (.cells (usE u).toArray 203 (0,0))::.pt b1 (.cells (prE p).toArray 46 (0,0))::h) ⟨(p.ll.length:Int),(p.ll.length:Int),⟨by rw[if_pos c38],by rw[if_pos c38]⟩,rfl,rfl⟩);exact WC.skip (mN [] (.pt b5 (.cells [.int .i64 0,.int .i64 0].toArray 172 (0,0))::.pt b3 (.cells (usE u).toArray 203 (0,0))::.pt b1 (.cells (prE p).toArray 46 (0,0))::h) ⟨0,0,⟨by rw[if_neg (by rw[c38];decide)],by rw[if_neg (by rw[c38];decide)]⟩,rfl,rfl⟩);rintro _ _ ⟨lo,hi,⟨hlo,hhi⟩,rfl,rfl⟩;refine A9 rfl ?_;refine j0 ?_;refine xG (PO.makeFunc Evs.nil (E1 Et)) ?_;refine Z1 ?_
 refine dS [5,12,19,23,30,33,34,41,48,54,62] (.op 0 (.op 1 (.op 2 (.op 3 (.op 4 (.op 5 (.op 6 (.op 7 (.op 8 (.op 9 (.op 10 (.op 11 (.op 12 (.op 13 (.op 14 (.op 15 (.op 16 (.op 17 (.op 18 (.op 20 (.op 21 (.op 22 (.op 19 (.op 23 (.op 24 (.op 25 (.op 26 (.op 27 (.op 28 (.op 29 (.op 31 (.op 32 (.op 30 (.op 33 (.op 34 (.op 35 (.op 36 (.op 37 (.op 38 (.op 39 (.op 40 (.op 41 (.op 42 (.op 43 (.op 44 (.op 45 (.op 46 (.op 47 (.op 48 (.op 49 (.op 50 (.op 51 (.op 52 (.op 53 (.op 54 (.op 55 (.op 56 (.op 57 (.op 58 (.op 59 (.op 60 (.op 61 (.op 62 (.op 63 (.op 64 (.op 65 (.op 66 (.op 67 (.op 68 (.op 69 (.op 70 (.op 71 .nil)))))))))))))))))))))))))))))))))))))))))))))))))))))))))))))))))))))))) [72,73,74,75,76] C9 ?_;refine kA4 ?_;refine yG rfl (R8 c2b Et) ?_;refine yf rfl (E2 Et Et) (λfr=>a7D u.p0 u.p1 p.ll.length _ _) ?_;refine kA5 ?_;refine B2 rfl rfl (GU.t rfl rfl) (λhc=>PO.move Et) Lb ?_
 refine H8 rfl rfl (GU.t rfl rfl) (λhc=>⟨Ef,(E3 (Eg hc) (Eg hc) (Eg hc)),λfr=>c0d 150 [.pointer (some ⟨b3,0,none⟩)] (inG u) u.g0 u.g1 _ _ _ p.gl _ _ (λx hx h' hh=>b9O hg b3 u x (hh.subset (qE _ Me)) ((hO.gs x hx).mono (qX Sb hh))) (hgr.mono Vl Sb)⟩) Lb ?_;refine kA8 ?_;refine B2 rfl rfl (GU.t rfl rfl) (λhc=>H0 (Eg hc) Ek) Lb ?_;refine H8 rfl rfl (GU.t rfl rfl) (λhc=>⟨Ef,(E1 (Eg hc)),λfr=>a0S p.name _ _ hg hn2⟩) Lb ?_;refine H8 rfl rfl (GU.t rfl rfl) (λhc=>⟨Ef,(E3 (Eg hc) (Eg hc) (Eg hc)),λfr=>a2u _ _ _ _ _⟩) Lb ?_;refine kA8 ?_;refine H8 rfl rfl (GU.t rfl rfl) (λhc=>⟨Ef,(E1 (Eg hc)),λfr=>a5V hg p.ch (hO.ch.mono Sb)⟩) Lb ?_;refine H8 rfl rfl (GU.t rfl rfl) (λhc=>⟨Ef,(E1 (Eg hc)),λfr=>a3g p.ch (hO.ch.t.mono Sb)⟩) Lb ?_
 refine H8 rfl rfl (GU.t rfl rfl) (λhc=>⟨Ef,(E3 (Eg hc) (Eg hc) (Eg hc)),λfr=>a2u _ _ _ _ _⟩) Lb ?_;refine kA6 ?_;refine H8 rfl rfl (GU.t rfl rfl) (λhc=>⟨Ef,(E3 (Eg hc) (Eg hc) Ef),λfr=>a5H 156 [] L5 u.t0 u.t1 _ _ _ p.tg.l _ _ (λx hx h' hh=>a5V hg x ((hO.tg.ok x hx).mono (qX Sb hh))) (htg.mono Vl Sb)⟩) Lb ?_;refine kA6 ?_;refine H8 rfl rfl (GU.t rfl rfl) (λhc=>⟨Ef,(E3 (Eg hc) (Eg hc) Ef),λfr=>a5H 159 [] K0 u.e0 u.e1 _ _ _ p.ex.l _ _ (λx hx h' hh=>may_ct hg x _ ((hO.ex.ok x hx).t.mono (qX Sb hh)) (hO.ex.ok x hx).w) (hex.mono Vl Sb)⟩) Lb ?_;refine kA4 ?_;refine B2 rfl rfl (GU.t rfl rfl) (λhc=>a0n W5 rfl rfl Et Me rfl) Lb ?_;refine H8 rfl rfl (GU.t rfl rfl) (λhc=>⟨Ef,(E3 (Eg hc) (Eg hc) Ef),λfr=>c05 161 [] (λn=>decide (n>=0)&&decide (n<8)) lo hi _ _ _ p.pn.l _ _ (λx _ _ _=>c02 x) (hpn.mono Vl Sb)⟩) Lb ?_;refine kA4 ?_
 refine B2 rfl rfl (GU.t rfl rfl) (λhc=>PO.move (Eg hc)) Lb ?_;refine B2 rfl rfl (a0m rfl rfl) (λhc=>PO.fieldAddr Q3 rfl (qf rfl) Et) Lb ?_;refine B2 rfl rfl (a0m rfl rfl) (λhc=>a0n a4R rfl rfl (Eg hc) Me rfl) Lb ?_;refine H8 rfl rfl (a0m rfl rfl) (λhc=>⟨Ef,(E1 (Eg hc)),λfr=>b7s hg p.sp (hO.sp.mono Sb)⟩) Lb ?_;refine B2 rfl rfl (GU.t rfl rfl) (λhc=>N3 hc rfl rfl) Lb ?_;refine B2 rfl rfl (GU.t rfl rfl) (λhc=>PO.move (Eg hc)) Lb ?_;refine B2 rfl rfl (a4M rfl rfl) (λhc=>PO.fieldAddr a0e rfl (qf rfl) Et) Lb ?_;refine B2 rfl rfl (a4M rfl rfl) (λhc=>C8 uu4 rfl (Eg hc) Me rfl) Lb ?_;refine B2 rfl rfl (a4M rfl rfl) (λhc=>PO.not (Eg hc)) Lb ?_;refine B2 rfl rfl (a4M rfl rfl) (λhc=>PO.move (Eg hc)) Lb ?_;refine B2 rfl rfl (a0m rfl rfl) (λhc=>PO.fieldAddr Q3 rfl (qf rfl) Et) Lb ?_
 refine B2 rfl rfl (a0m rfl rfl) (λhc=>a0n a4R rfl rfl (Eg hc) Me rfl) Lb ?_;refine B2 rfl rfl (a0m rfl rfl) (λhc=>PO.build a4R rfl rfl rfl EvP.nil rfl) Lb ?_;refine nS ?_;refine A3 (a0m rfl rfl) (λhc=>⟨Ef,(E2 (Eg hc) (Eg hc)),c1L p.sp (hsr.mono Sb)⟩) Lb ?_;refine C2 (a4M rfl rfl) (λhc=>N3 hc rfl rfl) Lb ?_;refine zG (λhc=>a2T hc rfl rfl) ?_;refine Z2 ?_;refine wT h ?_;exact⟨by rw[hu];unfold a0k;rw[<-hlo,show hi=lo from hhi.trans hlo.symm],rfl⟩
abbrev ctR(bc:Nat)(q:Int):Res:=.pt bc (.cells [.int .i64 q].toArray 104 (0,0))
theorem b8v{l:List Pr}{x:Pr}(h:l[0]?=some x)(d q:Int):a6e l d q=M2 x d false q:=by
 cases l with
 |nil=>cases h
 |cons y r=>cases h;rfl
theorem b3S{p:Pr}{d left:Int}{pl:Bool}(h0:0<=left)(h:(M2 p d pl left).1=true):0<=(M2 p d pl left).2/\(M2 p d pl left).2<=left:=by obtain⟨h1,h2⟩:=(b0C p d pl left h0 h).2 h;exact⟨h2,by omega⟩
def mayR(p:Pr)(bl d:Int)(pl:Bool)(i:Nat)(q:Int):Bool×Int:=if(a0C (p.ll.drop i) bl pl q).1 then a3B p.gl (d+2) (a0C (p.ll.drop i) bl pl q).2 else a0C (p.ll.drop i) bl pl q
theorem c3G{m:View}(hg:Glob m)(p:Pr):∀(h:Lr)(bc:Nat)(d left:Int)(pl:Bool),POk m h p->(0<=d/\d<=34)->(0<=left/\left<=2048) ->
 CT prog 40 [.pointer (some ⟨bc,0,none⟩),prV p,.int .i64 d,.bool pl] (ctR bc left::h) m (A5 (ctR bc (M2 p d pl left).2::h) (.bool (M2 p d pl left).1)):=by
 refine Pr.ind (q:=λp=>∀(h:Lr)(bc:Nat)(d left:Int)(pl:Bool),POk m h p->(0<=d/\d<=34)->(0<=left/\left<=2048) ->
  CT prog 40 [.pointer (some ⟨bc,0,none⟩),prV p,.int .i64 d,.bool pl] (ctR bc left::h) m (A5 (ctR bc (M2 p d pl left).2::h) (.bool (M2 p d pl left).1))) (λp ih h bc d left pl hP hd hlf=>?_) p
 have hO:=hP.own;have hlr:=hO.l;have hgr:=hO.g;have hbr:=hO.sp.b;have lmx:=hlr.mx;have lle:=hlr.le;have gmx:=hgr.mx;have gle:=hgr.le;have he:=a8G p d pl left;obtain⟨G,hG⟩:∃G,G=M2 p d pl left:=⟨_,rfl⟩;rw[<-hG]at he⊢;refine cB [0,2,3,5,8,9,11,13,43,47,48,52,82,84,85,86,87,100,103,104,105,106,117] func40 λ_=>?_
 refine xX λb5=>?_;refine ZZ [1,4] ?_;refine xG (P3 Et Ek (by omega)) ?_;refine ZZ [3,10] ?_;refine zG (λ_=>pA Q3) ?_;refine A3 (GU.f rfl rfl) (λhc=>⟨Ef,(E1 (Eg hc)),a9i hg p (hO.mono Sb)⟩) Lb ?_;refine kA9 ?_;refine zG (λhc=>N3 hc rfl rfl) ?_;refine y1 ?_ ?_<;>intro c43
 have hh:a1F p d pl left=true:=c43;rw[hh,if_pos rfl]at he;refine Z1 ?_;refine wT (ctR bc (left-1)::h) ?_;exact⟨by rw[he],by rw[he]⟩;have hh:a1F p d pl left=false:=c43;rw[hh,if_neg (by decide)]at he;obtain⟨⟨hl0,hd2⟩,hpl⟩:=b4o hh;have hV:=a6m hpl;obtain⟨y,hy⟩:∃y:Pr,0<p.sp.bl.length->p.sp.bl[0]?=some y:=by
  cases hb:p.sp.bl with
  |nil=>exact⟨p,λq=>absurd q (by simp)⟩
  |cons y r=>exact⟨y,λ_=>rfl⟩
 refine ZZ [0,3,0] ?_;refine kP2 [0,2,3,5,9,47] ?_;refine D6 KKh [0,2,3,5] rfl (λF' h'=>∃bl:Int,∃q:Int,((0<=bl/\bl<=34)/\(0<=q/\q<=2048)/\G=mayR p bl d (pl&&(p.k==18)) 0 q)/\F'=[(9,.int .i64 bl)]/\.pt b5 (.cells (prE p).toArray 46 (0,0))::ctR bc q::h=h') ?_ ?_;refine y3 ?_ ?_<;>intro c48
 rw[if_neg (by omega),if_pos c48]at he;refine kA3 ?_;exact WL.nil (mN [(9,.int .i64 (d+2))] (.pt b5 (.cells (prE p).toArray 46 (0,0))::ctR bc (left-1)::h) ⟨d+2,left-1,⟨⟨by omega,by omega⟩,⟨by omega,by omega⟩,by rw[he,show(p.k==18)=false by rw[c48];rfl,zB];rfl⟩,rfl,rfl⟩);refine y3 ?_ ?_<;>intro c52
 rw[if_pos c52]at he;have hsl:p.sp.bl.length<=1:=c6L (hV.sp (by rw[c52];rfl));have hyi:0<p.sp.bl.length->In y p:=λq=>In.s (qe (hy q))
 have hS:=a8R p.sp d (left-1);have hS0:¬0<p.sp.bl.length->a6e p.sp.bl (d+1) (left-1)=(true,left-1):=λq=>by
  have hb:p.sp.bl=[]:=qB (by omega);rw[hb];rfl
 have hcall:(!(p.sp.cs&&decide (d+2>32))&&decide ((p.sp.bl.length:Int)>0))=true->CT prog 40 [.pointer (some ⟨bc,0,none⟩),prV y,.int .i64 (d+1),.bool false] (.pt b5 (.cells (prE p).toArray 46 (0,0))::ctR bc (left-1)::h) m
  (A5 (.pt b5 (.cells (prE p).toArray 46 (0,0))::ctR bc (a1h p.sp d (left-1)).2::h) (.bool (a6e p.sp.bl (d+1) (left-1)).1)):=by
  intro hc;have h1:0<p.sp.bl.length:=by simp at hc;omega
  have h2:¬(p.sp.cs&&decide (d+2>32))=true:=by intro q;rw[q]at hc;simp at hc
  rw[hS,if_neg h2,b8v (hy h1)];exact CT.perm (qF _ _ _) (ih y (hyi h1) (.pt b5 (.cells (prE p).toArray 46 (0,0))::h) bc (d+1) (left-1) false ((hP.sub (hyi h1)).mono Sb) ⟨by omega,by omega⟩ ⟨by omega,by omega⟩) (qF _ _ _)
 have hskip:(!(p.sp.cs&&decide (d+2>32))&&decide ((p.sp.bl.length:Int)>0))=false->(Res.pt b5 (.cells (prE p).toArray 46 (0,0))::ctR bc (a1h p.sp d (left-1)).2::h)=.pt b5 (.cells (prE p).toArray 46 (0,0))::ctR bc (left-1)::h:=by
  intro hc;have h3:(a1h p.sp d (left-1)).2=left-1:=by
   rw[hS];split
   ·rfl
   ·rename_i h2
    rw[hS0 (λq=>(by
     have h4:decide ((p.sp.bl.length:Int)>0)=true:=by simp;omega
     rw[h4,za]at hc;exact h2 (by simpa using hc)))]
  rw[h3]
 refine ZZ [2,6] ?_;refine C2 (GU.t rfl rfl) (λhc=>K3 (Eg hc) Ek (by first|omega|(simp at hc;omega))) Lb ?_;refine b0g ?_;refine kA1 ?_;refine C2 (a0m rfl rfl) (λhc=>D7 U0.und U0.size U0.posz (Eg hc) Ek Rr rfl (q:=0) (by simp at hc;omega)) Lb ?_;refine C2 (a0m rfl rfl) (λhc=>a2q Q3 rfl rfl a1E Rr (Eg hc) (hy (by simp at hc;omega)) rfl rfl (qu _)) Lb ?_;refine kA1 ?_;refine C2 (a0m rfl rfl) (λhc=>K3 (Eg hc) Ek (by first|omega|(simp at hc;omega))) Lb ?_;refine a60 (a0m rfl rfl) (λhc=>⟨Ef,(E4 (Eg hc) (Eg hc) (Eg hc) Ek),hcall hc⟩) (λhc=>(hskip hc)) Lb ?_;refine kA1 ?_;refine zG (λhc=>N3 hc rfl rfl) ?_;refine y1 ?_ ?_<;>intro c82
 have d82:((p.sp.cs&&decide (d+2>32))||(decide ((p.sp.bl.length:Int)>0)&&!(a6e p.sp.bl (d+1) (left-1)).1))=true:=c82;have hS1:(a1h p.sp d (left-1)).1=false:=by
  rw[hS];split
  ·rfl
  ·rename_i h2
   rw[show(p.sp.cs&&decide (d+2>32))=false by simpa using h2,zC]at d82;simp only[qa,qK]at d82;exact d82.2
 rw[hS1,if_neg (by decide)]at he;refine Z1 ?_;refine wT (ctR bc (a1h p.sp d (left-1)).2::h) ?_;exact⟨by rw[he,hS1],by rw[he]⟩;have d82:((p.sp.cs&&decide (d+2>32))||(decide ((p.sp.bl.length:Int)>0)&&!(a6e p.sp.bl (d+1) (left-1)).1))=false:=c82;simp only[qA]at d82;have hSH:a1h p.sp d (left-1)=a6e p.sp.bl (d+1) (left-1):=by rw[hS,if_neg (by rw[d82.1];decide)]
 have hS1:(a1h p.sp d (left-1)).1=true:=by
  rw[hSH];by_cases hb:0<p.sp.bl.length
  ·have h9:=d82.2
   rw[show decide ((p.sp.bl.length:Int)>0)=true by simp;omega,qG]at h9;simpa using h9
  ·rw[hS0 hb]
 have hrb:0<=(a1h p.sp d (left-1)).2/\(a1h p.sp d (left-1)).2<=left-1:=by rw[hSH]at hS1⊢;obtain⟨_,r1,r2⟩:=a8Z hl0 hsl (λx _ d pl q h0 h=>b0C x d pl q h0 h) hS1;omega
 rw[hS1,if_pos rfl]at he;exact WC.skip (mN [(9,.int .i64 d)] (.pt b5 (.cells (prE p).toArray 46 (0,0))::ctR bc ((a1h p.sp d (left-1)).2)::h) ⟨d,(a1h p.sp d (left-1)).2,⟨⟨by omega,by omega⟩,⟨by omega,by omega⟩,by rw[he,show(p.k==18)=true by rw[c52];rfl,za];rfl⟩,rfl,rfl⟩);rw[if_neg c52,if_neg c48]at he;exact WC.skip (mN [(9,.int .i64 (d+1))] (.pt b5 (.cells (prE p).toArray 46 (0,0))::ctR bc (left-1)::h) ⟨d+1,left-1,⟨⟨by omega,by omega⟩,⟨by omega,by omega⟩,by rw[he,show(p.k==18)=false by simpa using c52,zB];rfl⟩,rfl,rfl⟩);rintro _ _ ⟨bl,q,⟨hbl,hq,hG1⟩,rfl,rfl⟩;refine A9 rfl ?_;refine Z4 ?_
 refine lI [0,2,3,5,9,84,85] (λμ F' h'=>∃i:Nat,∃q:Int,((i<=p.ll.length/\(0<=q/\q<=2048))/\G=mayR p bl d (pl&&(p.k==18)) i q)/\p.ll.length-i=μ/\F'=[(86,.int .i64 i)]/\.pt b5 (.cells (prE p).toArray 46 (0,0))::ctR bc q::h=h') (p.ll.length-0) [(86,.int .i64 0)] (.pt b5 (.cells (prE p).toArray 46 (0,0))::ctR bc q::h) ⟨0,q,⟨⟨by omega,hq⟩,hG1⟩,rfl,rfl,rfl⟩ ?_;rintro _ _ _ ⟨i,q,⟨⟨hk,hq⟩,hJ⟩,rfl,rfl,rfl⟩;refine A9 rfl ?_;refine y4 ?_ ?_<;>intro c87
 obtain⟨x,hx⟩:=A8 (l:=p.ll) (k:=i) (by omega);have hxm:=qe hx;have hL:a0C (p.ll.drop i) bl (pl&&(p.k==18)) q=if(M2 x bl (pl&&(p.k==18)) q).1 then a0C (p.ll.drop (i+1)) bl (pl&&(p.k==18)) (M2 x bl (pl&&(p.k==18)) q).2 else M2 x bl (pl&&(p.k==18)) q:=by rw[P9 hx];rfl
 unfold mayR at hJ;rw[hL]at hJ;refine ZZ [0,2] ?_;refine xW λb11=>?_
 refine ZZ [1,9] ?_;refine xg (E4 Et Et Et Et) (CT.perm (qL (l₁:=[_,_])) (ih x (In.l hxm) (.pt b11 (.cells (prE x).toArray 46 (0,0))::.pt b5 (.cells (prE p).toArray 46 (0,0))::h) bc bl q (pl&&(p.k==18)) ((hP.sub (In.l hxm)).mono Sb) hbl hq) (qL (l₁:=[_,_])).symm) ?_;rintro _ _ ⟨rfl,rfl⟩;refine y1 ?_ ?_<;>intro c100
 have hc0:(M2 x bl (pl&&(p.k==18)) q).1=false:=by simpa using c100
 simp only[hc0,qp,if_false]at hJ;refine Z1 ?_;refine wT (ctR bc (M2 x bl (pl&&(p.k==18)) q).2::h) ?_;exact⟨by rw[hJ,hc0],by rw[hJ]⟩;have hc0:(M2 x bl (pl&&(p.k==18)) q).1=true:=by simpa using c100
 rw[hc0,if_pos rfl]at hJ;have hrg:=b3S hq.1 hc0;refine ZZ [0,2] ?_;exact WL.nil (lN (p.ll.length-(i+1)) [(86,.int .i64 (i+1))] (.pt b5 (.cells (prE p).toArray 46 (0,0))::ctR bc ((M2 x bl (pl&&(p.k==18)) q).2)::h) ⟨i+1,(M2 x bl (pl&&(p.k==18)) q).2,⟨⟨by omega,⟨by omega,by omega⟩⟩,hJ⟩,rfl,rfl,rfl⟩);have hJ:G=a3B (p.gl.drop 0) (d+2) q:=by rw[hJ];unfold mayR;rw[show p.ll.drop i=[] from qb (by omega)];rfl
 refine ZZ [0,4,0] ?_;refine lI [0,2,103,104] (λμ F' h'=>∃i:Nat,∃q:Int,((i<=p.gl.length/\(0<=q/\q<=2048))/\G=a3B (p.gl.drop i) (d+2) q)/\p.gl.length-i=μ/\F'=[(105,.int .i64 i)]/\.pt b5 (.cells (prE p).toArray 46 (0,0))::ctR bc q::h=h') (p.gl.length-0) [(105,.int .i64 0)] (.pt b5 (.cells (prE p).toArray 46 (0,0))::ctR bc q::h) ⟨0,q,⟨⟨by omega,hq⟩,hJ⟩,rfl,rfl,rfl⟩ ?_;rintro _ _ _ ⟨i,q,⟨⟨hk,hq⟩,hJ⟩,rfl,rfl,rfl⟩;refine A9 rfl ?_;refine y4 ?_ ?_<;>intro c106
 obtain⟨g,hgx⟩:=A8 (l:=p.gl) (k:=i) (by omega);have hgm:=qe hgx;have hgv:=b7H (hV.gs g hgm).1;obtain⟨x,hx⟩:=A8 (l:=g.bl) (k:=0) (by have:=hgv.body;omega);have hxi:In x p:=In.g hgm (qe hx);have hx1:0<g.bl.length:=(qd.1 hx).1;have hgb:=(hO.gs g hgm).b;have hGG:a3B (p.gl.drop i) (d+2) q=if(M2 x (d+2) false q).1 then a3B (p.gl.drop (i+1)) (d+2) (M2 x (d+2) false q).2 else M2 x (d+2) false q:=by rw[P9 hgx,<-b8v hx,<-a7f];rfl
 rw[hGG]at hJ;refine ZZ [0,2] ?_;refine xW λb13=>?_
 refine ZZ [1,3] ?_;refine xG (D7 U0.und U0.size U0.posz (Ev.tmp rfl) Ek Rr rfl (q:=0) (by omega)) ?_;refine kA3 ?_;refine xg (E4 Et Et Et Ek) (CT.perm (qL (l₁:=[_,_])) (ih x hxi (.pt b13 (.cells (guE g).toArray 93 (0,0))::.pt b5 (.cells (prE p).toArray 46 (0,0))::h) bc (d+2) q false ((hP.sub hxi).mono Sb) ⟨by omega,by omega⟩ hq) (qL (l₁:=[_,_])).symm) ?_;rintro _ _ ⟨rfl,rfl⟩;refine y1 ?_ ?_<;>intro c117
 have hc0:(M2 x (d+2) false q).1=false:=by simpa using c117
 rw[hc0,if_neg (by decide)]at hJ;refine Z1 ?_;refine wT (ctR bc (M2 x (d+2) false q).2::h) ?_;exact⟨by rw[hJ,hc0],by rw[hJ]⟩;have hc0:(M2 x (d+2) false q).1=true:=by simpa using c117
 rw[hc0,if_pos rfl]at hJ;have hrg:=b3S hq.1 hc0;refine ZZ [0,2] ?_;exact WL.nil (lN (p.gl.length-(i+1)) [(105,.int .i64 (i+1))] (.pt b5 (.cells (prE p).toArray 46 (0,0))::ctR bc ((M2 x (d+2) false q).2)::h) ⟨i+1,(M2 x (d+2) false q).2,⟨⟨by omega,⟨by omega,by omega⟩⟩,hJ⟩,rfl,rfl,rfl⟩);have hJ:G=(true,q):=by rw[hJ,show p.gl.drop i=[] from qb (by omega)];rfl
 refine ZZ [0,1,0] ?_;refine wT (ctR bc q::h) ?_;exact⟨by rw[hJ],by rw[hJ]⟩
theorem b2F{m:View}{h:Lr}(hg:Glob m)(p:Pr)(hP:POk m h p):CT prog 21 [prV p] h m (A5 h (.bool (mayP p))):=by
 refine cB [1,2,3] func21 λ_=>?_;refine xX λb1=>?_
 refine ZZ [1,1] ?_;refine xX λb5=>?_;refine ZZ [1,2] ?_;refine xg (E4 Et Et Ek Ek) (c3G hg p (.pt b1 (.cells (prE p).toArray 46 (0,0))::h) b5 0 2048 true (hP.mono Sb) ⟨by omega,by omega⟩ ⟨by omega,by omega⟩) ?_;rintro _ _ ⟨rfl,rfl⟩;refine Z1 ?_;refine wT h ?_;exact⟨rfl,rfl⟩
end
section
open Go.Eng Go.Pc Go.Sx Go
open Go.Xp hiding B E8
open Go.Ty (Ty Vr Tok eqT tyV E9 B1 A7 I6 zeroK)
abbrev wrV(e:Int):Value:=.iface 76 (.agg #[.int .i64 e])
abbrev lnR(b:Nat)(a:Oa)(n c:Nat):Res:=.pt b (.cells [.slice a n c].toArray 118 (0,0))
structure Tk2(m:View)(h:Lr)(a:Oa)(c:Nat)(ts:Lt):Prop where
 k:Tks m h a c ts
 n:∀t∈ts,-2147483648<=t.n/\t.n<=2147483647
theorem Tk2.mono{m:View}{h h':Lr}{a:Oa}{c:Nat}{ts:Lt}(q:Tk2 m h a c ts)(s:h.Sublist h'):Tk2 m h' a c ts:=⟨q.k.mono s,q.n⟩
theorem Tk2.drop{m:View}{h:Lr}{a:Oa}{c:Nat}{ts:Lt}(q:Tk2 m h a c ts){i:Nat}(hi:i<=ts.length):Tk2 m h (sl1 a i c 4) (c-i) (ts.drop i):=
 ⟨⟨by rw[qx];exact q.k.rd.dropF A7 (by decide) hi,by have:=q.k.le;rw[qx];omega,λt ht=>q.k.tx t (z5 ht)⟩,λt ht=>q.n t (z5 ht)⟩
theorem Tk2.tail{m:View}{h:Lr}{a:Oa}{c:Nat}{ts:Lt}(q:Tk2 m h a c ts)(hi:0<ts.length):Tk2 m h (sl1 a 1 c 4) (c-1) ts.tail:=by rw[<-List.drop_one];exact q.drop hi
theorem Tk2.ok{m:View}{h:Lr}{a:Oa}{c:Nat}{ts:Lt}(q:Tk2 m h a c ts):Go.Ty.TkOk ts:=λx hx=>⟨q.n x hx,qr (q.k.tx x hx) (by decide)⟩
abbrev LnR{α:Type}(m:View)(hT h:Lr)(b:Nat)(M:E α)(O:α->Value->Lr->Prop)(v:Value)(h':Lr):Prop:=
 ∃(x:α)(r:Lt)(a:Oa)(c:Nat)(bl:Lr),M=.ok (x,r)/\O x v bl/\Tk2 m hT a c r/\h'=lnR b a r.length c::(bl++h)
abbrev LnE{α:Type}(h:Lr)(M:E α)(v:Value)(h':Lr):Prop:=∃e,M=.error e/\v=wrV e/\h'=h
abbrev LnX{α:Type}(m:View)(f:FuncId)(args:Lv)(b:Nat)(a:Oa)(c:Nat)(ts:Lt)(hT h:Lr)(M:E α)(O:α->Value->Lr->Prop):Prop:=
 CX prog f args (lnR b a ts.length c::h) m (λv _ h'=>LnR m hT h b M O v h') (λv h'=>LnE h M v h')
abbrev LnV{α:Type}(m:View)(hT h:Lr)(b:Nat)(M:E α)(W:α->Value->Prop)(v:Value)(h':Lr):Prop:=
 ∃(x:α)(r:Lt)(a:Oa)(c:Nat),M=.ok (x,r)/\W x v/\Tk2 m hT a c r/\h'=lnR b a r.length c::h
abbrev LnY{α:Type}(m:View)(f:FuncId)(args:Lv)(b:Nat)(a:Oa)(c:Nat)(ts:Lt)(hT h:Lr)(M:E α)(W:α->Value->Prop):Prop:=
 CX prog f args (lnR b a ts.length c::h) m (λv _ h'=>LnV m hT h b M W v h') (λv h'=>LnE h M v h')
abbrev WN(s:B)(v:Value):Prop:=v=str s/\s.length<=Big
abbrev WT(x:Ty)(v:Value):Prop:=v=tyV x/\TyW x
abbrev WI(k:Int)(v:Value):Prop:=v=.int .u8 k/\0<=k/\k<=255
abbrev WF(f:Fo)(v:Value):Prop:=v=foV f/\FoW f
abbrev OE(m:View)(x:Ex)(v:Value)(bl:Lr):Prop:=∃t,v=exV t/\B5 t=x/\EOk m bl t
abbrev OR(m:View)(x:Rp)(v:Value)(bl:Lr):Prop:=∃r,v=rpV r/\stR r=x/\r.name.length<=Big/\EOk m bl r.base/\EOk m bl r.count
theorem lnP{α:Type}(fn:Func){n:Cx}{F:Fm}{H h:Lr}{m:View}{R:Value->View->Lr->Prop}{M:E α}{e:Int}(hq:M=.error e)(hd:h.Sublist H)(hds:n.ds=[]:=by rfl) :
 ∀a w,Fr n F a->St m H w->bodyPost prog fn (RX m R (λv h'=>LnE h M v h')) (.panic [{ v:=wrV e,recovered:=false }]) a w:=a2G h Vl hd ⟨e,hq,rfl,rfl⟩ hds
inductive Mv(bl:Lr):Lr->Lr->Prop
 |stop {h:Lr}:Mv bl h (bl++h)
 |cons {x:Res} {s d:Lr} (q:Mv bl s d):Mv bl (x::s) (x::d)
theorem Mv.perm{bl s d:Lr}(q:Mv bl s d:=by repeat (first|apply Mv.cons|exact Mv.stop)):(bl++s).Perm d:=by
 induction q with
 |stop=>exact List.Perm.refl _
 |cons _ ih=>exact qL.trans (ih.cons _)
theorem mP{P:Program}{ops:Array Oper}{Q:Exit->Pw}{n:Cx}{F:Fm}{m:View}{l:Lo}{r:Res}{bl s d:Lr}(k:WL P ops Q n l F (r::d) m)(q:Mv bl s d:=by repeat (first|apply Mv.cons|exact Mv.stop)):WL P ops Q n l F (r::(bl++s)) m:=WL.perm (q.perm.cons _) k
theorem B6(m:View)(h:Lr):EOk m h A0:=⟨a9Q m h,.mk (by decide) (by decide) (by decide) (by decide) (qi _) λ_ hx=>(qn hx).elim⟩
theorem E6{b:Bool}(h:b=false):¬(b=true):=by rw[h];decide
theorem I5{α β:Type}(x:α)(ts:Lt)(f:α->Lt->E β):I3 (.ok (x,ts)) f=f x ts:=rfl
theorem a5y{β:Type}{k:Int}{s:B}{ts:Lt}{f:Lt->E β}(h:isM k s ts=true):Q5 k s ts f=f ts.tail:=by unfold Q5;rw[h];rfl
theorem a5a{β:Type}{k:Int}{s:B}{ts:Lt}{f:Lt->E β}(h:isM k s ts=false):Q5 k s ts f=.error 110:=by unfold Q5;rw[h];rfl
theorem b9T(ts:Lt):(ts.headD zeroK)=ts.getD 0 zeroK:=by cases ts<;>rfl
theorem c1b(k:Int)(s:B)(ts:Lt):isM k s ts=((decide ((ts.length:Int)>0)&&((ts.getD 0 zeroK).kind==k))&&((ts.getD 0 zeroK).text==s)):=by
 cases ts with
 |nil=>rfl
 |cons t r=>have h1:decide (((t::r).length:Int)>0)=true:=zh (by simp only[qJ];omega);rw[h1];rfl
theorem L9(s:B)(h:Lr)(m:View):CT prog 88 [str s] h m (A5 h (I6 ⟨2,0,s,0⟩)):=by
 refine cB [0,2] func88 λ_=>?_;refine xW λb2=>?_
 refine ZZ [0,3,0] ?_;refine wT h (h1:=cA C7) ?_;exact⟨rfl,rfl⟩
theorem H5(s:B)(h:Lr)(m:View):CT prog 95 [str s] h m (A5 h (I6 ⟨5,0,s,0⟩)):=by
 refine cB [0,2] func95 λ_=>?_;refine xW λb2=>?_
 refine ZZ [0,3,0] ?_;refine wT h (h1:=cA C7) ?_;exact⟨rfl,rfl⟩
theorem I7(h:Lr)(m:View):CX prog 27 [] h m (λ_ _ _=>False) (λv h'=>v=wrV 110/\h'=h):=by
 refine xB [] func27 λ_=>?_;refine kA1 ?_;refine xG (a0a c6m Et) ?_;refine WL.panic Et (a2G (P:=prog) (fn:=Tryz.f27) (h) Vl Sb ?_);exact⟨rfl,rfl⟩
theorem a4d(b:Nat)(a:Oa)(c:Nat)(ts:Lt)(u:Tok)(h hT:Lr){m:View}(hb:lnR b a ts.length c∈h)(hk:Tk2 m hT a c ts)(hs:hT.Sublist h) :
 CT prog 99 [ptV b,I6 u] h m (A5 h (.bool (isM u.kind u.text ts))):=by
 have hrd:=(hk.mono hs).k.rd;obtain⟨t,ht⟩:∃t,t=ts.getD 0 zeroK:=⟨_,rfl⟩;have hel:0<ts.length->ts[0]?=some t:=λhq=>by rw[ht,ql,qk hq];rfl
 refine cB [0,3,4] func99 λ_=>?_;refine xX λb3=>?_
 refine Z1 ?_;refine dS [] (.op 0 (.op 1 (.op 2 (.op 3 (.op 4 (.op 5 (.op 6 (.op 7 (.op 8 (.op 9 (.op 10 (.op 11 (.op 12 (.op 13 (.op 14 (.op 15 (.op 16 (.op 17 (.op 18 (.op 19 (.op 20 (.op 21 (.op 22 (.op 23 (.op 24 (.op 25 (.op 26 (.op 27 .nil)))))))))))))))))))))))))))) [28,29,30] C9 ?_;refine kA3 ?_;refine yG rfl (C8 a2O rfl Et (qt _ hb) rfl) ?_;refine yG rfl (R8 a2O Et) ?_;refine yG rfl (O4 Et Ek rfl) ?_;refine kA1 ?_;refine B2 rfl rfl (GU.t rfl rfl) (λhc=>PO.move Et) Lb ?_;refine B2 rfl rfl (GU.t rfl rfl) (λhc=>PO.nilCheck (Eg hc)) Lb ?_;refine B2 rfl rfl (GU.t rfl rfl) (λhc=>PO.fieldAddr c3D rfl (qf rfl) (Eg hc)) Lb ?_;refine B2 rfl rfl (GU.t rfl rfl) (λhc=>C8 a2O rfl (Eg hc) (qt _ hb) rfl) Lb ?_
 refine B2 rfl rfl (GU.t rfl rfl) (λhc=>D7 B3.und B3.size B3.posz (Eg hc) Ek Rr rfl (q:=0) (by simp at hc;omega)) Lb ?_;refine B2 rfl rfl (GU.t rfl rfl) (λhc=>D0 C7 rfl (qf rfl) A7 (qu _) Rr (hel (by simp at hc;omega)) (Eg hc)) Lb ?_;refine B2 rfl rfl (GU.t rfl rfl) (λhc=>D2 a2H rfl A7 Rr (Eg hc) (hel (by simp at hc;omega)) rfl) Lb ?_;refine kA2 ?_;refine B2 rfl rfl (GU.t rfl rfl) (λhc=>O4 (Eg hc) (Eg hc) rfl) Lb ?_;refine kA2 ?_;refine B2 rfl rfl (GU.t rfl rfl) (λhc=>PO.move Et) Lb ?_;refine B2 rfl rfl (GU.t rfl rfl) (λhc=>PO.nilCheck (Eg hc)) Lb ?_;refine B2 rfl rfl (GU.t rfl rfl) (λhc=>PO.fieldAddr c3D rfl (qf rfl) (Eg hc)) Lb ?_;refine B2 rfl rfl (GU.t rfl rfl) (λhc=>C8 a2O rfl (Eg hc) (qt _ hb) rfl) Lb ?_
 refine B2 rfl rfl (GU.t rfl rfl) (λhc=>D7 B3.und B3.size B3.posz (Eg hc) Ek Rr rfl (q:=0) (by simp at hc;omega)) Lb ?_;refine B2 rfl rfl (GU.t rfl rfl) (λhc=>D0 C7 rfl (qf rfl) A7 (qu _) Rr (hel (by simp at hc;omega)) (Eg hc)) Lb ?_;refine B2 rfl rfl (GU.t rfl rfl) (λhc=>D2 uu9 rfl A7 Rr (Eg hc) (hel (by simp at hc;omega)) rfl) Lb ?_;refine kA2 ?_;refine nS ?_;refine zG (λhc=>H0 (Eg hc) (Eg hc)) ?_;refine Z2 ?_;refine wT h ?_;exact⟨by rw[c1b,<-ht],rfl⟩
theorem M9(b:Nat)(a:Oa)(c:Nat)(ts:Lt)(u:Tok)(h hT:Lr){m:View}(hk:Tk2 m hT a c ts)(hs:hT.Sublist h) :
 CT prog 87 [ptV b,I6 u] (lnR b a ts.length c::h) m
  (λv _ h'=>∃a' c' r,v=.bool (isM u.kind u.text ts)/\r=(if isM u.kind u.text ts then ts.tail else ts)/\Tk2 m hT a' c' r/\h'=lnR b a' r.length c'::h):=by
 refine cB [0,3,4,8] func87 λ_=>?_;refine xX λb3=>?_
 refine ZZ [1,2] ?_;refine xf (E2 Et Et) (a4d b a c ts u _ hT Me hk (hs.trans Sb)) ?_;refine y1 ?_ ?_<;>intro c8
 have d8:isM u.kind u.text ts=false:=by simpa using c8
 refine Z1 ?_;refine wT (lnR b a ts.length c::h) ?_;exact⟨a,c,ts,by rw[d8],by rw[d8];rfl,hk,rfl⟩;have d8:isM u.kind u.text ts=true:=by simpa using c8
 have hp:=a4G d8;refine ZZ [0,5] ?_;refine xG (S4 B3.und B3.size Et Ek (l:=1) rfl (by omega)) ?_;refine ZZ [3,1,0] ?_;refine wT (lnR b (sl1 a 1 c 4) (ts.length-1) (c-1)::h) ?_;exact⟨_,_,ts.tail,by rw[d8],by rw[d8];rfl,hk.tail hp,by rw[zg]⟩
theorem Q4(b:Nat)(a:Oa)(c:Nat)(ts:Lt)(u:Tok)(a1:Oa)(c1:Nat)(h hT:Lr){m:View}(hk:Tk2 m hT a c ts)(hs:hT.Sublist h)(hu:Rd m h a1 1 c1 4 (fl B1 [u])) :
 CX prog 97 [ptV b,.slice a1 1 c1] (lnR b a ts.length c::h) m
  (λ_ _ h'=>isM u.kind u.text ts=true/\∃a' c',Tk2 m hT a' c' ts.tail/\h'=lnR b a' ts.tail.length c'::h) (λv h'=>isM u.kind u.text ts=false/\v=wrV 110/\h'=h):=by
 refine xB [0,5,6,7,8,9,15] func97 λ_=>?_;refine Z3 ?_;refine lI [0,6,7] (λμ F' h'=>∃j:Nat,∃x:Oa,∃y:Nat,∃r:Lt,(Tk2 m hT x y r/\((j=0/\r=ts)\/(j=1/\isM u.kind u.text ts=true/\r=ts.tail)))/\1-j=μ/\F'=[(8,.int .i64 j)]/\lnR b x r.length y::h=h') (1-0) [(8,.int .i64 0)] (lnR b a ts.length c::h) ⟨0,a,c,ts,⟨hk,.inl ⟨rfl,rfl⟩⟩,rfl,rfl,rfl⟩ ?_;rintro _ _ _ ⟨j,x,y,r,⟨hk1,hJ⟩,rfl,rfl,rfl⟩;refine A9 rfl ?_;refine y4 ?_ ?_<;>intro c9
 have hj:j=0/\r=ts:=by rcases hJ with hJ|hJ<;>first|exact hJ|(exfalso;have:=hJ.1;omega)
 obtain⟨rfl,rfl⟩:=hj;have hx:([u]:Lt)[0]?=some u:=rfl;refine ZZ [0,2] ?_;refine xW λb5=>?_;refine ZZ [1,2] ?_;refine pD (lnR b x r.length y) ?_;refine xg (E2 Et Et) (M9 b x y r u _ hT hk1 (hs.trans Sb)) ?_;rintro _ _ ⟨a2,c2,r2,rfl,hr2,hk2,rfl⟩;refine y1 ?_ ?_<;>intro c15
 have d15:isM u.kind u.text r=false:=by simpa using c15
 refine j0 ?_;refine A1 Ef Evs.nil (I7 _ _) Lb (λv hv hx=>?_) λv16 h16 hr16=>?_
 ·obtain⟨rfl,rfl⟩:=hx
  exact a2G (P:=prog) (fn:=Tryz.f97) h Vl Sb ⟨d15,rfl,rfl⟩
 exact hr16.elim;have d15:isM u.kind u.text r=true:=by simpa using c15
 rw[d15,if_pos rfl]at hr2;refine ZZ [0,2] ?_;exact WL.nil (lN (1-1) [(8,.int .i64 1)] (lnR b a2 r2.length c2::h) ⟨1,a2,c2,r2,⟨hk2,.inr ⟨rfl,d15,hr2⟩⟩,rfl,rfl,rfl⟩);have hj:isM u.kind u.text ts=true/\r=ts.tail:=by rcases hJ with hJ|hJ<;>first|exact hJ.2|(exfalso;have:=hJ.1;omega)
 obtain⟨h1,rfl⟩:=hj;refine WC.exit (toX (.inr rfl) (a6p (h':=lnR b x ts.tail.length y::h) (.inr rfl) rfl  Vl Sb ?_));exact⟨h1,x,y,hk1,rfl⟩
theorem c5f{ts:Lt}{t:Tok}(ht:t=ts.getD 0 zeroK)(h:(((ts.length:Int)==0)||(t.kind !=1))=true):t.kind≠1:=by
 simp only[qv,qU,bne_iff_ne,ne_eq]at h;rcases h with h1|h1
 ·have h2:ts=[]:=qB (by omega)
  rw[ht,h2];decide
 ·exact h1
theorem c4O{ts:Lt}{t:Tok}(h:(((ts.length:Int)==0)||(t.kind !=1))=false):0<ts.length/\t.kind=1:=by simp only[qA,qW,bne_eq_false_iff_eq,ne_eq]at h;exact⟨by omega,h.2⟩
theorem a4m{n:Nat}(h:(!((n:Int)==0))=true):0<n:=by simp at h;omega
theorem a2k(b:Nat)(a:Oa)(c:Nat)(ts:Lt)(h hT:Lr){m:View}(hk:Tk2 m hT a c ts)(hs:hT.Sublist h):LnY m 89 [ptV b] b a c ts hT h (O0 ts) WN:=by
 have hrd:=(hk.mono hs).k.rd;have hq:=a9F ts;obtain⟨t,ht⟩:∃t,t=ts.getD 0 zeroK:=⟨_,rfl⟩;have hel:0<ts.length->ts[0]?=some t:=λhq=>by rw[ht,ql,qk hq];rfl
 rw[<-ht]at hq;refine xB [0,2,3,19] func89 λ_=>?_
 refine ZZ [1,8] ?_;refine zG (λhc=>PO.nilCheck (Eg hc)) ?_;refine kA2 ?_;refine zG (λhc=>D7 B3.und B3.size B3.posz (Eg hc) Ek Rr rfl (q:=0) (a4m hc)) ?_;refine zG (λhc=>D0 C7 rfl (qf rfl) A7 (qu _) Rr (hel (a4m hc)) (Eg hc)) ?_;refine zG (λhc=>D2 a2H rfl A7 Rr (Eg hc) (hel (a4m hc)) rfl) ?_;refine y2 ?_ ?_<;>intro c19
 have d19:=c5f ht c19;rw[if_neg d19]at hq;refine j0 ?_;refine A1 Ef Evs.nil (I7 _ _) Lb (λv hv hx=>?_) λv20 h20 hr20=>?_
 ·obtain⟨rfl,rfl⟩:=hx;exact lnP Tryz.f89 hq Sb
 exact hr20.elim;have d19:=c4O c19;have hel:=hel d19.1;have htx:=hk.k.tx t (qe hel);have hp:=d19.1;rw[if_pos d19.2]at hq;refine ZZ [0,4] ?_;refine xG (D7 B3.und B3.size B3.posz (Ev.tmp rfl) Ek Rr rfl (q:=0) (by omega)) ?_;refine ZZ [3,5] ?_;refine xG (S4 B3.und B3.size Et Ek (l:=1) rfl (by omega)) ?_;refine ZZ [3,2,0] ?_;refine xT (lnR b (sl1 a 1 c 4) (ts.length-1) (c-1)::h) ?_;exact⟨_,_,_,_,hq,⟨rfl,htx⟩,hk.tail d19.1,by rw[zg]⟩
theorem X6{m:View}(hg:Glob m)(b:Nat)(a:Oa)(c:Nat)(ts:Lt)(h hT:Lr)(hk:Tk2 m hT a c ts)(hs:hT.Sublist h):LnX m 98 [ptV b] b a c ts hT h (G6 ts) (OE m):=by
 have hq:=a6M ts;have hle:=b00 (ts:=ts);refine xB [0,2,3,4,5,16] func98 λ_=>?_;refine xW λb2=>?_
 refine ZZ [0,4] ?_;refine xg (E1 Et) (b1P hg a c ts _ (hk.k.mono (hs.trans Sb)) hk.n) ?_;rintro _ _ ⟨t11,bl,rfl,⟨hst,hU,hW⟩,rfl⟩;refine WL.perm (Mv.perm) ?_;refine kA4 ?_;refine xW λb3=>?_;refine ZZ [3,2,0] ?_;refine wN ?_ ?_<;>intro c16
 rw[if_neg c16]at hq;refine j0 ?_;refine A1 Ef Evs.nil (I7 _ _) Lb (λv hv hx=>?_) λv17 h17 hr17=>?_
 ·obtain⟨rfl,rfl⟩:=hx;exact lnP Tryz.f98 hq Sb
 exact hr17.elim;rw[if_pos c16]at hq;refine ZZ [0,6] ?_;refine xG (S4 B3.und B3.size Et Et rfl (by omega)) ?_;refine ZZ [3,2,0] ?_;refine xT (lnR b (sl1 a (R1 ts) c 4) (ts.length-R1 ts) (c-R1 ts)::(bl++h)) (h1:=cA P7) ?_;exact⟨_,ts.drop (R1 ts),_,_,bl,hq,⟨t11,rfl,hst,hU,hW⟩,hk.drop hle,by rw[qx]⟩
theorem a1r{m:View}(hg:Glob m)(b:Nat)(a:Oa)(c:Nat)(ts:Lt)(h hT:Lr)(hk:Tk2 m hT a c ts)(hs:hT.Sublist h):LnX m 101 [ptV b] b a c ts hT h (C5 ts) (OE m):=by
 have hrd:=(hk.mono hs).k.rd;obtain⟨t,ht⟩:∃t,t=ts.getD 0 zeroK:=⟨_,rfl⟩;have hel:0<ts.length->ts[0]?=some t:=λhq=>by rw[ht,ql,qk hq];rfl
 have hq:=a3v ts;rw[<-ht]at hq;refine xB [0,2,3,19,25] func101 λ_=>?_
 refine xW λb2=>?_;refine ZZ [0,8] ?_;refine zG (λhc=>PO.nilCheck (Eg hc)) ?_;refine kA2 ?_;refine zG (λhc=>D7 B3.und B3.size B3.posz (Eg hc) Ek Rr rfl (q:=0) (a4m hc)) ?_;refine zG (λhc=>D0 C7 rfl (qf rfl) A7 (qu _) Rr (hel (a4m hc)) (Eg hc)) ?_;refine zG (λhc=>D2 a2H rfl A7 Rr (Eg hc) (hel (a4m hc)) rfl) ?_;refine y2 ?_ ?_<;>intro c19
 have d19:=c5f ht c19;rw[if_neg d19]at hq;refine j0 ?_;refine A1 Ef Evs.nil (I7 _ _) Lb (λv hv hx=>?_) λv20 h20 hr20=>?_
 ·obtain⟨rfl,rfl⟩:=hx;exact lnP Tryz.f101 hq Sb
 exact hr20.elim;have d19:=c4O c19;rw[if_pos d19.2]at hq;refine ZZ [0,1] ?_;refine pD (lnR b a ts.length c) ?_;refine A1 Ef (E1 Et) (X6 hg b a c ts _ _ hk (hs.trans Sb)) Lb (λv hv hx=>?_) λv22 h22 hr22=>?_
 ·obtain⟨e,hx1,rfl,rfl⟩:=hx;rw[hx1]at hq;exact lnP Tryz.f101 hq Sb
 obtain⟨x22,r22,a22,u22,bl22,hM22,⟨t22,rfl,rfl,hO22⟩,hk22,rfl⟩:=hr22;refine mP ?_;rw[hM22,I5]at hq;refine xW λb3=>?_
 refine ZZ [1,1] ?_;refine xf (E1 Et) (a5V hg t22 (hO22.mono Sb)) ?_;refine y1 ?_ ?_<;>intro c25
 have d25:L5 (B5 t22)=false:=by rw[V5];simpa using c25
 rw[if_neg (E6 d25)]at hq;refine j0 ?_;refine A1 Ef Evs.nil (I7 _ _) Lb (λv hv hx=>?_) λv26 h26 hr26=>?_
 ·obtain⟨rfl,rfl⟩:=hx;exact lnP Tryz.f101 hq Sb
 exact hr26.elim;have d25:L5 (B5 t22)=true:=by rw[V5];simpa using c25
 rw[if_pos d25]at hq;refine ZZ [0,2,0] ?_;refine xT (lnR b a22 r22.length u22::(bl22++h)) (h1:=cA P7) ?_;exact⟨_,_,_,_,bl22,hq,⟨t22,rfl,rfl,hO22⟩,hk22,rfl⟩
theorem b3m{m:View}(hg:Glob m)(b:Nat)(a:Oa)(c:Nat)(ts:Lt)(h hT:Lr)(hk:Tk2 m hT a c ts)(hs:hT.Sublist h):LnY m 96 [ptV b] b a c ts hT h (a1Y ts) WT:=by
 have hq:a1Y ts=if(Go.Ty.front ts).2.2=0 then .ok ((Go.Ty.front ts).1,ts.drop (Go.Ty.front ts).2.1)else .error 110:=rfl
 have hle:=c3E ts;refine xB [0,2,3,4,5,16] func96 λ_=>?_;refine xW λb2=>?_
 refine ZZ [0,4] ?_;refine xf (E1 Et) (Ty9.front_ct a _ c ts _ _ hg (hk.k.mono (hs.trans Sb)).rd hk.ok) ?_;refine kA4 ?_;refine xW λb3=>?_;refine ZZ [3,2,0] ?_;refine wN ?_ ?_<;>intro c16
 rw[if_neg c16]at hq;refine j0 ?_;refine A1 Ef Evs.nil (I7 _ _) Lb (λv hv hx=>?_) λv17 h17 hr17=>?_
 ·obtain⟨rfl,rfl⟩:=hx;exact lnP Tryz.f96 hq Sb
 exact hr17.elim;rw[if_pos c16]at hq;refine ZZ [0,6] ?_;refine xG (S4 B3.und B3.size Et Et rfl (by omega)) ?_;refine ZZ [3,2,0] ?_;refine xT (lnR b (sl1 a (Go.Ty.front ts).2.1 c 4) (ts.length-(Go.Ty.front ts).2.1) (c-(Go.Ty.front ts).2.1)::h) (h1:=cA a7s) ?_;exact⟨_,_,_,_,hq,⟨rfl,c7g ts⟩,hk.drop hle,by rw[qx]⟩
theorem b7y{m:View}(hg:Glob m)(b:Nat)(a:Oa)(c:Nat)(ts:Lt)(h hT:Lr)(hk:Tk2 m hT a c ts)(hs:hT.Sublist h):LnY m 170 [ptV b] b a c ts hT h (S1 ts) WI:=by
 have hq:S1 ts=I3 (a1Y ts) λt r=>if N4 t then .ok (t.kind,r)else .error 110:=rfl
 refine xB [0,2,3,8] func170 λ_=>?_;refine ZZ [1,1] ?_;refine pD (lnR b a ts.length c) ?_;refine A1 Ef (E1 Et) (b3m hg b a c ts _ _ hk (hs.trans Sb)) Lb (λv hv hx=>?_) λv5 h5 hr5=>?_
 ·obtain⟨e,hx1,rfl,rfl⟩:=hx;rw[hx1]at hq;exact lnP Tryz.f170 hq Sb
 obtain⟨x5,r5,a5,u5,hM5,⟨rfl,hw5⟩,hk5,rfl⟩:=hr5;rw[hM5,I5]at hq;refine xW λb3=>?_
 refine ZZ [1,1] ?_;refine xf (E1 Et) (a6O x5 _ _ hg (qr hw5.p (by decide))) ?_;refine y1 ?_ ?_<;>intro c8
 have d8:N4 x5=false:=by simpa using c8
 rw[if_neg (E6 d8)]at hq;refine j0 ?_;refine A1 Ef Evs.nil (I7 _ _) Lb (λv hv hx=>?_) λv9 h9 hr9=>?_
 ·obtain⟨rfl,rfl⟩:=hx;exact lnP Tryz.f170 hq Sb
 exact hr9.elim;have d8:N4 x5=true:=by simpa using c8
 rw[if_pos d8]at hq;refine ZZ [0,3,0] ?_;refine xT (lnR b a5 r5.length u5::h) ?_;exact⟨_,_,_,_,hq,⟨rfl,hw5.k⟩,hk5,rfl⟩
theorem b8H{m:View}(hg:Glob m)(b:Nat)(a:Oa)(c:Nat)(ts:Lt)(h hT:Lr)(hk:Tk2 m hT a c ts)(hs:hT.Sublist h):LnY m 92 [ptV b] b a c ts hT h (a0d ts) WF:=by
 have hq:a0d ts=I3 (a1Y (if isM 2 [86,65,76] ts then ts.tail else ts)) λt r=>I3 (O0 r) λn r=>if foP ⟨isM 2 [86,65,76] ts,t,n⟩then .ok (⟨isM 2 [86,65,76] ts,t,n⟩,r)else .error 110:=rfl
 refine xB [0,2,3,16] func92 λ_=>?_;refine xW λb2=>?_
 refine ZZ [0,1] ?_;refine xf (E1 Ek) (L9 _ _ _) ?_;refine pD (lnR b a ts.length c) ?_;refine xg (E2 Et Et) (M9 b a c ts _ _ _ hk (hs.trans Sb)) ?_;rintro _ _ ⟨a6,u6,r6,rfl,he6,hk6,rfl⟩;rw[<-he6]at hq;refine kA1 ?_;refine xW λb3=>?_
 refine ZZ [1,1] ?_;refine pD (lnR b a6 r6.length u6) ?_;refine A1 Ef (E1 Et) (b3m hg b a6 u6 r6 _ _ hk6 (hs.trans Sb)) Lb (λv hv hx=>?_) λv9 h9 hr9=>?_
 ·obtain⟨e,hx1,rfl,rfl⟩:=hx;rw[hx1]at hq;exact lnP Tryz.f92 hq Sb
 obtain⟨x9,r9,a9,u9,hM9,⟨rfl,hw9⟩,hk9,rfl⟩:=hr9;rw[hM9,I5]at hq;refine ZZ [2,1] ?_;refine pD (lnR b a9 r9.length u9) ?_;refine A1 Ef (E1 Et) (a2k b a9 u9 r9 _ _ hk9 (hs.trans Sb)) Lb (λv hv hx=>?_) λv12 h12 hr12=>?_
 ·obtain⟨e,hx1,rfl,rfl⟩:=hx;rw[hx1]at hq;exact lnP Tryz.f92 hq Sb
 obtain⟨x12,r12,a12,u12,hM12,⟨rfl,hw12⟩,hk12,rfl⟩:=hr12;rw[hM12,I5]at hq;refine ZZ [2,1] ?_;refine xf (E1 Et) (c1B hg ⟨isM 2 [86,65,76] ts,x9,x12⟩ ⟨hw9,hw12⟩) ?_;refine y1 ?_ ?_<;>intro c16
 have d16:foP ⟨isM 2 [86,65,76] ts,x9,x12⟩=false:=by simpa using c16
 rw[if_neg (E6 d16)]at hq;refine j0 ?_;refine A1 Ef Evs.nil (I7 _ _) Lb (λv hv hx=>?_) λv17 h17 hr17=>?_
 ·obtain⟨rfl,rfl⟩:=hx;exact lnP Tryz.f92 hq Sb
 exact hr17.elim;have d16:foP ⟨isM 2 [86,65,76] ts,x9,x12⟩=true:=by simpa using c16
 rw[if_pos d16]at hq;refine ZZ [0,2,0] ?_;refine xT (lnR b a12 r12.length u12::h) (h1:=cA b9m) ?_;exact⟨_,_,_,_,hq,⟨rfl,hw9,hw12⟩,hk12,rfl⟩
theorem c2H{m:View}(hg:Glob m)(b:Nat)(a:Oa)(c:Nat)(ts:Lt)(h hT:Lr)(hk:Tk2 m hT a c ts)(hs:hT.Sublist h):LnX m 263 [ptV b] b a c ts hT h (a8A ts) (OR m):=by
 have hq:a8A ts=if ts.isEmpty then .ok (B0,ts)else I3 (O0 ts) λn r=>Q5 5 [61] r λr=>I3 (G6 r) λb r=>Q5 2 [70,79,82] r λr=>I3 (G6 r) λc r=>.ok (⟨n,b,c⟩,r):=rfl
 refine xB [0,2,3,9] func263 λ_=>?_;refine xW λb2=>?_
 refine ZZ [0,6,0] ?_;refine wE ?_ ?_<;>intro c9
 have d9:ts.isEmpty=true:=by rw[List.isEmpty_iff];exact qB (by omega)
 rw[if_pos d9]at hq;refine Z2 ?_;refine xT (lnR b a ts.length c::h) (h1:=cA c3s) ?_;exact⟨_,_,_,_,[],hq,⟨⟨[],A0,A0⟩,rfl,rfl,qi _,B6 _ _,B6 _ _⟩,hk,rfl⟩;have d9:ts.isEmpty=false:=by cases ts with|nil=>exact absurd rfl c9|cons=>rfl
 rw[if_neg (E6 d9)]at hq;refine ZZ [0,1] ?_;refine pD (lnR b a ts.length c) ?_;refine A1 Ef (E1 Et) (a2k b a c ts _ _ hk (hs.trans Sb)) Lb (λv hv hx=>?_) λv12 h12 hr12=>?_
 ·obtain⟨e,hx1,rfl,rfl⟩:=hx;rw[hx1]at hq;exact lnP Tryz.f263 hq Sb
 obtain⟨x12,r12,a12,u12,hM12,⟨rfl,hw12⟩,hk12,rfl⟩:=hr12;rw[hM12,I5]at hq;refine kA1 ?_;refine xW λb3=>?_
 refine ZZ [1,1] ?_;refine xf (E1 Ek) (H5 _ _ _) ?_;refine xY B3 Eb λb16=>?_;refine pD (lnR b a12 r12.length u12) ?_;refine A1 Ef (E2 Et Et) (Q4 b a12 u12 r12 _ _ _ _ _ hk12 (hs.trans Sb) (Rd.ofPt rfl (by decide) Me)) Lb (λv hv hx=>?_) λv17 h17 hr17=>?_
 ·obtain⟨hx1,rfl,rfl⟩:=hx;exact lnP Tryz.f263 (hq.trans (a5a hx1)) Sb
 obtain⟨hi17,a17,u17,hk17,rfl⟩:=hr17;rw[a5y hi17]at hq;refine ZZ [0,1] ?_;refine pD (lnR b a17 r12.tail.length u17) ?_;refine A1 Ef (E1 Et) (X6 hg b a17 u17 r12.tail _ _ hk17 (hs.trans Sb)) Lb (λv hv hx=>?_) λv19 h19 hr19=>?_
 ·obtain⟨e,hx1,rfl,rfl⟩:=hx;rw[hx1]at hq;exact lnP Tryz.f263 hq Sb
 obtain⟨x19,r19,a19,u19,bl19,hM19,⟨t19,rfl,rfl,hO19⟩,hk19,rfl⟩:=hr19;refine mP ?_;rw[hM19,I5]at hq;refine ZZ [2,1] ?_;refine xf (E1 Ek) (L9 _ _ _) ?_;refine xY B3 Eb λb23=>?_
 refine pD (lnR b a19 r19.length u19) ?_;refine A1 Ef (E2 Et Et) (Q4 b a19 u19 r19 _ _ _ _ _ hk19 (hs.trans Sb) (Rd.ofPt rfl (by decide) Me)) Lb (λv hv hx=>?_) λv24 h24 hr24=>?_
 ·obtain⟨hx1,rfl,rfl⟩:=hx;exact lnP Tryz.f263 (hq.trans (a5a hx1)) Sb
 obtain⟨hi24,a24,u24,hk24,rfl⟩:=hr24;rw[a5y hi24]at hq;refine ZZ [0,1] ?_;refine pD (lnR b a24 r19.tail.length u24) ?_;refine A1 Ef (E1 Et) (X6 hg b a24 u24 r19.tail _ _ hk24 (hs.trans Sb)) Lb (λv hv hx=>?_) λv26 h26 hr26=>?_
 ·obtain⟨e,hx1,rfl,rfl⟩:=hx;rw[hx1]at hq;exact lnP Tryz.f263 hq Sb
 obtain⟨x26,r26,a26,u26,bl26,hM26,⟨t26,rfl,rfl,hO26⟩,hk26,rfl⟩:=hr26;refine mP ?_;rw[hM26,I5]at hq;refine ZZ [2,2,0] ?_;refine xT (lnR b a26 r26.length u26::(bl26++(bl19++h))) (h1:=cA c3s) ?_;exact⟨_,_,_,_,bl26++bl19,hq,⟨⟨x12,t19,t26⟩,rfl,rfl,hw12,hO19.mono (qc _ _),hO26.mono (qg _ _)⟩,hk26,by rw[qj]⟩
end
section
open Go.Eng Go.Pc Go.Sx Go
open Go.Xp hiding B E8
open Go.Ty (Ty Vr Tok eqT tyV E9 B1 A7 I6 zeroK H3 E5)
open Go.Lx (encB C0)
abbrev OL(m:View)(l:List Ex)(v:Value)(bl:Lr):Prop:=∃s:Sli Ex,v=.slice s.a s.l.length s.c/\s.l.map B5=l/\LOk m bl s
abbrev OLs{α:Type}(m:View)(enc:α->Lv)(sz:Nat)(W:α->Prop)(l:List α)(v:Value)(bl:Lr):Prop:=∃a c,v=.slice a l.length c/\Rd m bl a l.length c sz (fl enc l)/\∀x∈l,W x
abbrev WB(s:B):Prop:=s.length<=Big
abbrev WK(k:Int):Prop:=0<=k/\k<=255
theorem a6V{α:Type}{take:Lt->E α}{sep:B}{n:Nat}{acc:List α}{ts:Lt}(h:isM 5 sep ts=false):R6 take sep n acc ts=.ok (acc,ts):=by cases n<;>(unfold R6;rw[if_neg (E6 h)])
theorem a5G{α:Type}{take:Lt->E α}{sep:B}{acc:List α}{ts:Lt}(h:isM 5 sep ts=true):R6 take sep 0 acc ts=.error 110:=by unfold R6;rw[if_pos h]
theorem a5I{α:Type}{take:Lt->E α}{sep:B}{n:Nat}{acc:List α}{ts:Lt}(h:isM 5 sep ts=true):R6 take sep (n+1) acc ts=I3 (take ts.tail) λx r=>R6 take sep n (acc++[x]) r:=by
 conv=>lhs;unfold R6
 rw[if_pos h]
theorem J1{α:Type}{p:α->Prop}{l:List α}{x:α}(h:∀y∈l,p y)(hx:p x):∀y∈l++[x],p y:=λy hy=>by
 rcases qY.1 hy with h1|h1
 ·exact h y h1
 ·rw[qy]at h1;exact h1▸hx
theorem a1T{m:View}(q:FuncId)(take:Lt->E Ex)(sep:B)(most:Nat)(b:Nat)(a:Oa)(c:Nat)(ts:Lt)(h hT:Lr)(hk:Tk2 m hT a c ts)(hs:hT.Sublist h)(h1:1<=most/\most<=100)
 (ht:∀(a:Oa)(c:Nat)(ts:Lt)(h:Lr),Tk2 m hT a c ts->hT.Sublist h->LnX m q [ptV b] b a c ts hT h (take ts) (OE m)) :
 LnX m 114 [ptV b,str sep,.int .i64 most,.func (.func q) #[ptV b] #[]] b a c ts hT h (H1 take sep most ts) (OL m):=by
 have hq:H1 take sep most ts=I3 (take ts) λx r=>R6 take sep (most-1) [x] r:=rfl
 refine xB [0,1,2,3,8,9,16,20] func114 λ_=>?_;refine ZZ [1,1] ?_;refine pD (lnR b a ts.length c) ?_;refine A1 (Ev.tmp rfl) Evs.nil (ht a c ts _ hk (hs.trans Sb)) Lb (λv hv hx=>?_) λv11 h11 hr11=>?_
 ·obtain⟨e,hx1,rfl,rfl⟩:=hx;rw[hx1]at hq;exact lnP Tryz.f114 hq Sb
 obtain⟨x11,r11,a11,u11,bl11,hM11,⟨t11,rfl,rfl,hO11⟩,hk11,rfl⟩:=hr11;refine mP ?_;rw[hM11,I5]at hq;refine xY U9 Eb λb12=>?_
 refine kA1 ?_;refine a2M (k:=1) (sz:=6) (cs:=exE t11) rfl (by decide) Up ?_;refine WL.perm (qF _ _ _) ?_;refine Z0 ?_;refine lI [0,1,2,3] (λμ F' h'=>∃a9:Oa,∃c9:Nat,∃l:List Ex,∃bl:Lr,∃x:Oa,∃y:Nat,∃r:Lt,((1<=l.length/\l.length<=most)/\Tk2 m hT x y r/\(∀z∈l,EOk m bl z)/\H1 take sep most ts=R6 take sep (most-l.length) (l.map B5) r)/\most-l.length=μ/\F'=[(9,.slice a9 l.length c9)]/\lnR b x r.length y::.row (.slice a9 l.length c9) 29 6 l.length (fl exE l)::(bl++h)=h') (most-([t11]).length) [(9,.slice (some ⟨b12,0,none⟩) ([t11]).length 1)] (lnR b a11 r11.length u11::.row (.slice (some ⟨b12,0,none⟩) ([t11]).length 1) 29 6 ([t11]).length (fl exE ([t11]))::(bl11++h)) ⟨some ⟨b12,0,none⟩,1,[t11],bl11,a11,u11,r11,⟨⟨qz _,h1.1⟩,hk11,λz hz=>by rw[qy]at hz;subst hz;exact hO11,hq⟩,rfl,rfl,rfl⟩ ?_
 rintro _ _ _ ⟨a9,c9,l,bl,x,y,r,⟨⟨hl1,hl2⟩,hk1,hW,hJ⟩,rfl,rfl,rfl⟩;refine A9 rfl ?_;refine kA2 ?_;refine xf (E1 Et) (H5 _ _ _) ?_;refine pD (lnR b x r.length y) ?_;refine xg (E2 Et Et) (M9 b x y r _ _ _ hk1 (hs.trans Sb)) ?_;rintro _ _ ⟨a16,u16,r16,rfl,he16,hk16,rfl⟩;refine y0 ?_ ?_<;>intro c16
 replace he16:=he16.trans (if_pos c16);subst r16;refine ZZ [0,4,0] ?_;refine wE ?_ ?_<;>intro c20
 have e20:most-l.length=0:=by omega
 have hq:H1 take sep most ts=.error 110:=by rw[hJ,e20];exact a5G c16
 refine j0 ?_;refine A1 Ef Evs.nil (I7 _ _) Lb (λv hv hx=>?_) λv21 h21 hr21=>?_
 ·obtain⟨rfl,rfl⟩:=hx;exact lnP Tryz.f114 hq Sb
 exact hr21.elim;obtain⟨n,hn⟩:∃n,most-l.length=n+1:=⟨most-l.length-1,by omega⟩;rw[hn]at hJ;have hq:=hJ.trans (a5I c16);refine ZZ [0,2] ?_;refine pD (lnR b a16 r.tail.length u16) ?_;refine A1 (Ev.tmp rfl) Evs.nil (ht a16 u16 r.tail _ hk16 (hs.trans Sb)) Lb (λv hv hx=>?_) λv24 h24 hr24=>?_
 ·obtain⟨e,hx1,rfl,rfl⟩:=hx;rw[hx1]at hq;exact lnP Tryz.f114 hq Sb
 obtain⟨x24,r24,a24,u24,bl24,hM24,⟨t24,rfl,rfl,hO24⟩,hk24,rfl⟩:=hr24;refine mP ?_;rw[hM24,I5]at hq;have hln:(l++[t24]).length=l.length+1:=qh;have hn2:most-(l++[t24]).length=n:=by omega
 refine xY U9 Eb λb25=>?_;refine xD U9 (Ev.tmp rfl) (Ev.tmp rfl) (show l.length+1=(l++[t24]).length by simp) (D9 (enc:=exE) _ (t24)) λa26 c26=>?_
 refine kA1 ?_;rw[<-qj bl24 bl h];exact WL.nil (lN (most-(l++[t24]).length) [(9,.slice a26 (l++[t24]).length c26)] (lnR b a24 r24.length u24::.row (.slice a26 (l++[t24]).length c26) 29 6 (l++[t24]).length (fl exE (l++[t24]))::((bl24++bl)++h)) ⟨a26,c26,l++[t24],bl24++bl,a24,u24,r24,⟨⟨by omega,by omega⟩,hk24,J1 (λz hz=>(hW z hz).mono (qc _ _)) (hO24.mono (qg _ _)),by rw[hn2,qZ];exact hq⟩,rfl,rfl,rfl⟩);replace he16:=he16.trans (if_neg (E6 c16));subst r16;rw[a6V c16]at hJ;refine H4 (a:=a9) Me λp9 q9 r9=>?_
 refine ZZ [0,2,0] ?_;refine xT (lnR b a16 r.length u16::.row (.slice a9 l.length c9) 29 6 l.length (fl exE l)::(bl++h)) ?_;exact⟨_,r,_,_,.row (.slice a9 l.length c9) 29 6 l.length (fl exE l)::bl,hJ,⟨⟨a9,c9,l⟩,rfl,rfl,Rd.inRow (qm _) r9 p9 q9,λz hz=>(hW z hz).mono (qo _ _)⟩,hk16,rfl⟩
theorem c2X{m:View}(q:FuncId)(take:Lt->E B)(sep:B)(most:Nat)(b:Nat)(a:Oa)(c:Nat)(ts:Lt)(h hT:Lr)(hk:Tk2 m hT a c ts)(hs:hT.Sublist h)(h1:1<=most/\most<=100)
 (ht:∀(a:Oa)(c:Nat)(ts:Lt)(h:Lr),Tk2 m hT a c ts->hT.Sublist h->LnY m q [ptV b] b a c ts hT h (take ts) WN) :
 LnX m 100 [ptV b,str sep,.int .i64 most,.func (.func q) #[ptV b] #[]] b a c ts hT h (H1 take sep most ts) (OLs m encB 1 WB):=by
 have hq:H1 take sep most ts=I3 (take ts) λx r=>R6 take sep (most-1) [x] r:=rfl
 refine xB [0,1,2,3,8,9,16,20] func100 λ_=>?_;refine ZZ [1,1] ?_;refine pD (lnR b a ts.length c) ?_;refine A1 (Ev.tmp rfl) Evs.nil (ht a c ts _ hk (hs.trans Sb)) Lb (λv hv hx=>?_) λv11 h11 hr11=>?_
 ·obtain⟨e,hx1,rfl,rfl⟩:=hx;rw[hx1]at hq;exact lnP Tryz.f100 hq Sb
 obtain⟨x11,r11,a11,u11,hM11,⟨rfl,hw11⟩,hk11,rfl⟩:=hr11;rw[hM11,I5]at hq;refine xY M3 Eb λb12=>?_
 refine kA1 ?_;refine a2M (k:=1) (sz:=1) (cs:=encB x11) rfl (by decide) Up ?_;refine WL.perm (qF _ _ _) ?_;refine Z0 ?_;refine lI [0,1,2,3] (λμ F' h'=>∃a9:Oa,∃c9:Nat,∃l:List B,∃x:Oa,∃y:Nat,∃r:Lt,((1<=l.length/\l.length<=most)/\Tk2 m hT x y r/\(∀z∈l,WB z)/\H1 take sep most ts=R6 take sep (most-l.length) l r)/\most-l.length=μ/\F'=[(9,.slice a9 l.length c9)]/\lnR b x r.length y::.row (.slice a9 l.length c9) 9 1 l.length (fl encB l)::h=h') (most-([x11]).length) [(9,.slice (some ⟨b12,0,none⟩) ([x11]).length 1)] (lnR b a11 r11.length u11::.row (.slice (some ⟨b12,0,none⟩) ([x11]).length 1) 9 1 ([x11]).length (fl encB ([x11]))::h) ⟨some ⟨b12,0,none⟩,1,[x11],a11,u11,r11,⟨⟨qz _,h1.1⟩,hk11,λz hz=>by rw[qy]at hz;subst hz;exact hw11,hq⟩,rfl,rfl,rfl⟩ ?_;rintro _ _ _ ⟨a9,c9,l,x,y,r,⟨⟨hl1,hl2⟩,hk1,hW,hJ⟩,rfl,rfl,rfl⟩
 refine A9 rfl ?_;refine kA2 ?_;refine xf (E1 Et) (H5 _ _ _) ?_;refine pD (lnR b x r.length y) ?_;refine xg (E2 Et Et) (M9 b x y r _ _ _ hk1 (hs.trans Sb)) ?_;rintro _ _ ⟨a16,u16,r16,rfl,he16,hk16,rfl⟩;refine y0 ?_ ?_<;>intro c16
 replace he16:=he16.trans (if_pos c16);subst r16;refine ZZ [0,4,0] ?_;refine wE ?_ ?_<;>intro c20
 have e20:most-l.length=0:=by omega
 have hq:H1 take sep most ts=.error 110:=by rw[hJ,e20];exact a5G c16
 refine j0 ?_;refine A1 Ef Evs.nil (I7 _ _) Lb (λv hv hx=>?_) λv21 h21 hr21=>?_
 ·obtain⟨rfl,rfl⟩:=hx;exact lnP Tryz.f100 hq Sb
 exact hr21.elim;obtain⟨n,hn⟩:∃n,most-l.length=n+1:=⟨most-l.length-1,by omega⟩;rw[hn]at hJ;have hq:=hJ.trans (a5I c16);refine ZZ [0,2] ?_;refine pD (lnR b a16 r.tail.length u16) ?_;refine A1 (Ev.tmp rfl) Evs.nil (ht a16 u16 r.tail _ hk16 (hs.trans Sb)) Lb (λv hv hx=>?_) λv24 h24 hr24=>?_
 ·obtain⟨e,hx1,rfl,rfl⟩:=hx;rw[hx1]at hq;exact lnP Tryz.f100 hq Sb
 obtain⟨x24,r24,a24,u24,hM24,⟨rfl,hw24⟩,hk24,rfl⟩:=hr24;rw[hM24,I5]at hq;have hln:(l++[x24]).length=l.length+1:=qh;have hn2:most-(l++[x24]).length=n:=by omega
 refine xY M3 Eb λb25=>?_;refine xD M3 (Ev.tmp rfl) (Ev.tmp rfl) (show l.length+1=(l++[x24]).length by simp) (D9 (enc:=encB) _ (x24)) λa26 c26=>?_
 refine kA1 ?_;exact WL.nil (lN (most-(l++[x24]).length) [(9,.slice a26 (l++[x24]).length c26)] (lnR b a24 r24.length u24::.row (.slice a26 (l++[x24]).length c26) 9 1 (l++[x24]).length (fl encB (l++[x24]))::h) ⟨a26,c26,l++[x24],a24,u24,r24,⟨⟨by omega,by omega⟩,hk24,J1 hW hw24,by rw[hn2];exact hq⟩,rfl,rfl,rfl⟩);replace he16:=he16.trans (if_neg (E6 c16));subst r16;rw[a6V c16]at hJ;refine H4 (a:=a9) Me λp9 q9 r9=>?_
 refine ZZ [0,2,0] ?_;refine xT (lnR b a16 r.length u16::.row (.slice a9 l.length c9) 9 1 l.length (fl encB l)::h) ?_;exact⟨_,r,_,_,[.row (.slice a9 l.length c9) 9 1 l.length (fl encB l)],hJ,⟨a9,c9,rfl,Rd.inRow (qm _) r9 p9 q9,hW⟩,hk16,rfl⟩
theorem b3I{m:View}(q:FuncId)(take:Lt->E Int)(sep:B)(most:Nat)(b:Nat)(a:Oa)(c:Nat)(ts:Lt)(h hT:Lr)(hk:Tk2 m hT a c ts)(hs:hT.Sublist h)(h1:1<=most/\most<=100)
 (ht:∀(a:Oa)(c:Nat)(ts:Lt)(h:Lr),Tk2 m hT a c ts->hT.Sublist h->LnY m q [ptV b] b a c ts hT h (take ts) WI) :
 LnX m 169 [ptV b,str sep,.int .i64 most,.func (.func q) #[ptV b] #[]] b a c ts hT h (H1 take sep most ts) (OLs m H3 1 WK):=by
 have hq:H1 take sep most ts=I3 (take ts) λx r=>R6 take sep (most-1) [x] r:=rfl
 refine xB [0,1,2,3,8,9,16,20] func169 λ_=>?_;refine ZZ [1,1] ?_;refine pD (lnR b a ts.length c) ?_;refine A1 (Ev.tmp rfl) Evs.nil (ht a c ts _ hk (hs.trans Sb)) Lb (λv hv hx=>?_) λv11 h11 hr11=>?_
 ·obtain⟨e,hx1,rfl,rfl⟩:=hx;rw[hx1]at hq;exact lnP Tryz.f169 hq Sb
 obtain⟨x11,r11,a11,u11,hM11,⟨rfl,hw11⟩,hk11,rfl⟩:=hr11;rw[hM11,I5]at hq;refine xY a7r Eb λb12=>?_
 refine kA1 ?_;refine a2M (k:=1) (sz:=1) (cs:=H3 x11) rfl (by decide) Up ?_;refine WL.perm (qF _ _ _) ?_;refine Z0 ?_;refine lI [0,1,2,3] (λμ F' h'=>∃a9:Oa,∃c9:Nat,∃l:List Int,∃x:Oa,∃y:Nat,∃r:Lt,((1<=l.length/\l.length<=most)/\Tk2 m hT x y r/\(∀z∈l,WK z)/\H1 take sep most ts=R6 take sep (most-l.length) l r)/\most-l.length=μ/\F'=[(9,.slice a9 l.length c9)]/\lnR b x r.length y::.row (.slice a9 l.length c9) 26 1 l.length (fl H3 l)::h=h') (most-([x11]).length) [(9,.slice (some ⟨b12,0,none⟩) ([x11]).length 1)] (lnR b a11 r11.length u11::.row (.slice (some ⟨b12,0,none⟩) ([x11]).length 1) 26 1 ([x11]).length (fl H3 ([x11]))::h) ⟨some ⟨b12,0,none⟩,1,[x11],a11,u11,r11,⟨⟨qz _,h1.1⟩,hk11,λz hz=>by rw[qy]at hz;subst hz;exact hw11,hq⟩,rfl,rfl,rfl⟩ ?_;rintro _ _ _ ⟨a9,c9,l,x,y,r,⟨⟨hl1,hl2⟩,hk1,hW,hJ⟩,rfl,rfl,rfl⟩
 refine A9 rfl ?_;refine kA2 ?_;refine xf (E1 Et) (H5 _ _ _) ?_;refine pD (lnR b x r.length y) ?_;refine xg (E2 Et Et) (M9 b x y r _ _ _ hk1 (hs.trans Sb)) ?_;rintro _ _ ⟨a16,u16,r16,rfl,he16,hk16,rfl⟩;refine y0 ?_ ?_<;>intro c16
 replace he16:=he16.trans (if_pos c16);subst r16;refine ZZ [0,4,0] ?_;refine wE ?_ ?_<;>intro c20
 have e20:most-l.length=0:=by omega
 have hq:H1 take sep most ts=.error 110:=by rw[hJ,e20];exact a5G c16
 refine j0 ?_;refine A1 Ef Evs.nil (I7 _ _) Lb (λv hv hx=>?_) λv21 h21 hr21=>?_
 ·obtain⟨rfl,rfl⟩:=hx;exact lnP Tryz.f169 hq Sb
 exact hr21.elim;obtain⟨n,hn⟩:∃n,most-l.length=n+1:=⟨most-l.length-1,by omega⟩;rw[hn]at hJ;have hq:=hJ.trans (a5I c16);refine ZZ [0,2] ?_;refine pD (lnR b a16 r.tail.length u16) ?_;refine A1 (Ev.tmp rfl) Evs.nil (ht a16 u16 r.tail _ hk16 (hs.trans Sb)) Lb (λv hv hx=>?_) λv24 h24 hr24=>?_
 ·obtain⟨e,hx1,rfl,rfl⟩:=hx;rw[hx1]at hq;exact lnP Tryz.f169 hq Sb
 obtain⟨x24,r24,a24,u24,hM24,⟨rfl,hw24⟩,hk24,rfl⟩:=hr24;rw[hM24,I5]at hq;have hln:(l++[x24]).length=l.length+1:=qh;have hn2:most-(l++[x24]).length=n:=by omega
 refine xY a7r Eb λb25=>?_;refine xD a7r (Ev.tmp rfl) (Ev.tmp rfl) (show l.length+1=(l++[x24]).length by simp) (D9 (enc:=H3) _ (x24)) λa26 c26=>?_
 refine kA1 ?_;exact WL.nil (lN (most-(l++[x24]).length) [(9,.slice a26 (l++[x24]).length c26)] (lnR b a24 r24.length u24::.row (.slice a26 (l++[x24]).length c26) 26 1 (l++[x24]).length (fl H3 (l++[x24]))::h) ⟨a26,c26,l++[x24],a24,u24,r24,⟨⟨by omega,by omega⟩,hk24,J1 hW hw24,by rw[hn2];exact hq⟩,rfl,rfl,rfl⟩);replace he16:=he16.trans (if_neg (E6 c16));subst r16;rw[a6V c16]at hJ;refine H4 (a:=a9) Me λp9 q9 r9=>?_
 refine ZZ [0,2,0] ?_;refine xT (lnR b a16 r.length u16::.row (.slice a9 l.length c9) 26 1 l.length (fl H3 l)::h) ?_;exact⟨_,r,_,_,[.row (.slice a9 l.length c9) 26 1 l.length (fl H3 l)],hJ,⟨a9,c9,rfl,Rd.inRow (qm _) r9 p9 q9,hW⟩,hk16,rfl⟩
theorem c0s{m:View}(q:FuncId)(take:Lt->E Fo)(sep:B)(most:Nat)(b:Nat)(a:Oa)(c:Nat)(ts:Lt)(h hT:Lr)(hk:Tk2 m hT a c ts)(hs:hT.Sublist h)(h1:1<=most/\most<=100)
 (ht:∀(a:Oa)(c:Nat)(ts:Lt)(h:Lr),Tk2 m hT a c ts->hT.Sublist h->LnY m q [ptV b] b a c ts hT h (take ts) WF) :
 LnX m 172 [ptV b,str sep,.int .i64 most,.func (.func q) #[ptV b] #[]] b a c ts hT h (H1 take sep most ts) (OLs m foE 6 FoW):=by
 have hq:H1 take sep most ts=I3 (take ts) λx r=>R6 take sep (most-1) [x] r:=rfl
 refine xB [0,1,2,3,8,9,16,20] func172 λ_=>?_;refine ZZ [1,1] ?_;refine pD (lnR b a ts.length c) ?_;refine A1 (Ev.tmp rfl) Evs.nil (ht a c ts _ hk (hs.trans Sb)) Lb (λv hv hx=>?_) λv11 h11 hr11=>?_
 ·obtain⟨e,hx1,rfl,rfl⟩:=hx;rw[hx1]at hq;exact lnP Tryz.f172 hq Sb
 obtain⟨x11,r11,a11,u11,hM11,⟨rfl,hw11⟩,hk11,rfl⟩:=hr11;rw[hM11,I5]at hq;refine xY b3l Eb λb12=>?_
 refine kA1 ?_;refine a2M (k:=1) (sz:=6) (cs:=foE x11) rfl (by decide) Up ?_;refine WL.perm (qF _ _ _) ?_;refine Z0 ?_;refine lI [0,1,2,3] (λμ F' h'=>∃a9:Oa,∃c9:Nat,∃l:List Fo,∃x:Oa,∃y:Nat,∃r:Lt,((1<=l.length/\l.length<=most)/\Tk2 m hT x y r/\(∀z∈l,FoW z)/\H1 take sep most ts=R6 take sep (most-l.length) l r)/\most-l.length=μ/\F'=[(9,.slice a9 l.length c9)]/\lnR b x r.length y::.row (.slice a9 l.length c9) 95 6 l.length (fl foE l)::h=h') (most-([x11]).length) [(9,.slice (some ⟨b12,0,none⟩) ([x11]).length 1)] (lnR b a11 r11.length u11::.row (.slice (some ⟨b12,0,none⟩) ([x11]).length 1) 95 6 ([x11]).length (fl foE ([x11]))::h) ⟨some ⟨b12,0,none⟩,1,[x11],a11,u11,r11,⟨⟨qz _,h1.1⟩,hk11,λz hz=>by rw[qy]at hz;subst hz;exact hw11,hq⟩,rfl,rfl,rfl⟩ ?_;rintro _ _ _ ⟨a9,c9,l,x,y,r,⟨⟨hl1,hl2⟩,hk1,hW,hJ⟩,rfl,rfl,rfl⟩
 refine A9 rfl ?_;refine kA2 ?_;refine xf (E1 Et) (H5 _ _ _) ?_;refine pD (lnR b x r.length y) ?_;refine xg (E2 Et Et) (M9 b x y r _ _ _ hk1 (hs.trans Sb)) ?_;rintro _ _ ⟨a16,u16,r16,rfl,he16,hk16,rfl⟩;refine y0 ?_ ?_<;>intro c16
 replace he16:=he16.trans (if_pos c16);subst r16;refine ZZ [0,4,0] ?_;refine wE ?_ ?_<;>intro c20
 have e20:most-l.length=0:=by omega
 have hq:H1 take sep most ts=.error 110:=by rw[hJ,e20];exact a5G c16
 refine j0 ?_;refine A1 Ef Evs.nil (I7 _ _) Lb (λv hv hx=>?_) λv21 h21 hr21=>?_
 ·obtain⟨rfl,rfl⟩:=hx;exact lnP Tryz.f172 hq Sb
 exact hr21.elim;obtain⟨n,hn⟩:∃n,most-l.length=n+1:=⟨most-l.length-1,by omega⟩;rw[hn]at hJ;have hq:=hJ.trans (a5I c16);refine ZZ [0,2] ?_;refine pD (lnR b a16 r.tail.length u16) ?_;refine A1 (Ev.tmp rfl) Evs.nil (ht a16 u16 r.tail _ hk16 (hs.trans Sb)) Lb (λv hv hx=>?_) λv24 h24 hr24=>?_
 ·obtain⟨e,hx1,rfl,rfl⟩:=hx;rw[hx1]at hq;exact lnP Tryz.f172 hq Sb
 obtain⟨x24,r24,a24,u24,hM24,⟨rfl,hw24⟩,hk24,rfl⟩:=hr24;rw[hM24,I5]at hq;have hln:(l++[x24]).length=l.length+1:=qh;have hn2:most-(l++[x24]).length=n:=by omega
 refine xY b3l Eb λb25=>?_;refine xD b3l (Ev.tmp rfl) (Ev.tmp rfl) (show l.length+1=(l++[x24]).length by simp) (D9 (enc:=foE) _ (x24)) λa26 c26=>?_
 refine kA1 ?_;exact WL.nil (lN (most-(l++[x24]).length) [(9,.slice a26 (l++[x24]).length c26)] (lnR b a24 r24.length u24::.row (.slice a26 (l++[x24]).length c26) 95 6 (l++[x24]).length (fl foE (l++[x24]))::h) ⟨a26,c26,l++[x24],a24,u24,r24,⟨⟨by omega,by omega⟩,hk24,J1 hW hw24,by rw[hn2];exact hq⟩,rfl,rfl,rfl⟩);replace he16:=he16.trans (if_neg (E6 c16));subst r16;rw[a6V c16]at hJ;refine H4 (a:=a9) Me λp9 q9 r9=>?_
 refine ZZ [0,2,0] ?_;refine xT (lnR b a16 r.length u16::.row (.slice a9 l.length c9) 95 6 l.length (fl foE l)::h) ?_;exact⟨_,r,_,_,[.row (.slice a9 l.length c9) 95 6 l.length (fl foE l)],hJ,⟨a9,c9,rfl,Rd.inRow (qm _) r9 p9 q9,hW⟩,hk16,rfl⟩
theorem c6o{m:View}(q:FuncId)(take:Lt->E Ex)(b:Nat)(a:Oa)(c:Nat)(ts:Lt)(h hT:Lr)(hk:Tk2 m hT a c ts)(hs:hT.Sublist h)
 (ht:∀(a:Oa)(c:Nat)(ts:Lt)(h:Lr),Tk2 m hT a c ts->hT.Sublist h->LnX m q [ptV b] b a c ts hT h (take ts) (OE m)) :
 LnX m 113 [ptV b,.func (.func q) #[ptV b] #[]] b a c ts hT h (brM take ts) (OL m):=by
 have hq:brM take ts=Q5 5 [40] ts λr=>if isM 5 [41] r then .ok ([],r.tail)else I3 (H1 take [44] 8 r) λl r=>Q5 5 [41] r λr=>.ok (l,r):=rfl
 refine xB [0,1,4,5,12] func113 λ_=>?_;refine ZZ [1,1] ?_;refine xf (E1 Ek) (H5 _ _ _) ?_;refine xY B3 Eb λb8=>?_
 refine pD (lnR b a ts.length c) ?_;refine A1 Ef (E2 Et Et) (Q4 b a c ts _ _ _ _ _ hk (hs.trans Sb) (Rd.ofPt rfl (by decide) Me)) Lb (λv hv hx=>?_) λv9 h9 hr9=>?_
 ·obtain⟨hx1,rfl,rfl⟩:=hx;exact lnP Tryz.f113 (hq.trans (a5a hx1)) Sb
 obtain⟨hi9,a9,u9,hk9,rfl⟩:=hr9;rw[a5y hi9]at hq;refine ZZ [0,1] ?_;refine xf (E1 Ek) (H5 _ _ _) ?_;refine pD (lnR b a9 ts.tail.length u9) ?_;refine xg (E2 Et Et) (M9 b a9 u9 ts.tail _ _ _ hk9 (hs.trans Sb)) ?_;rintro _ _ ⟨a12,u12,r12,rfl,he12,hk12,rfl⟩;refine y0 ?_ ?_<;>intro c12
 replace he12:=he12.trans (if_pos c12);subst r12;rw[if_pos c12]at hq;refine Z1 ?_;refine xT (lnR b a12 ts.tail.tail.length u12::h) ?_;exact⟨_,_,_,_,[],hq,⟨⟨none,0,[]⟩,rfl,rfl,Rd.nilF exE 6 m _,λ_ hx=>(qn hx).elim⟩,hk12,rfl⟩;replace he12:=he12.trans (if_neg (E6 c12));subst r12;rw[if_neg (E6 c12)]at hq;refine ZZ [0,2] ?_;refine pD (lnR b a12 ts.tail.length u12) ?_;refine A1 Ef (E4 Et Ek Ek Et) (a1T q take [44] 8 b a12 u12 ts.tail _ _ hk12 (hs.trans Sb) (by decide) ht) Lb (λv hv hx=>?_) λv15 h15 hr15=>?_
 ·obtain⟨e,hx1,rfl,rfl⟩:=hx;rw[hx1]at hq;exact lnP Tryz.f113 hq Sb
 obtain⟨x15,r15,a15,u15,bl15,hM15,⟨s15,rfl,rfl,hO15⟩,hk15,rfl⟩:=hr15;refine mP ?_;rw[hM15,I5]at hq;refine ZZ [1,1] ?_;refine xf (E1 Ek) (H5 _ _ _) ?_;refine xY B3 Eb λb18=>?_
 refine pD (lnR b a15 r15.length u15) ?_;refine A1 Ef (E2 Et Et) (Q4 b a15 u15 r15 _ _ _ _ _ hk15 (hs.trans Sb) (Rd.ofPt rfl (by decide) Me)) Lb (λv hv hx=>?_) λv19 h19 hr19=>?_
 ·obtain⟨hx1,rfl,rfl⟩:=hx;exact lnP Tryz.f113 (hq.trans (a5a hx1)) Sb
 obtain⟨hi19,a19,u19,hk19,rfl⟩:=hr19;rw[a5y hi19]at hq;refine ZZ [0,2,0] ?_;refine xT (lnR b a19 r15.tail.length u19::(bl15++h)) ?_;exact⟨_,_,_,_,bl15,hq,⟨s15,rfl,rfl,hO15⟩,hk19,rfl⟩
theorem c4T{m:View}(q:FuncId)(take:Lt->E Fo)(b:Nat)(a:Oa)(c:Nat)(ts:Lt)(h hT:Lr)(hk:Tk2 m hT a c ts)(hs:hT.Sublist h)
 (ht:∀(a:Oa)(c:Nat)(ts:Lt)(h:Lr),Tk2 m hT a c ts->hT.Sublist h->LnY m q [ptV b] b a c ts hT h (take ts) WF) :
 LnX m 91 [ptV b,.func (.func q) #[ptV b] #[]] b a c ts hT h (brM take ts) (OLs m foE 6 FoW):=by
 have hq:brM take ts=Q5 5 [40] ts λr=>if isM 5 [41] r then .ok ([],r.tail)else I3 (H1 take [44] 8 r) λl r=>Q5 5 [41] r λr=>.ok (l,r):=rfl
 refine xB [0,1,4,5,12] func91 λ_=>?_;refine ZZ [1,1] ?_;refine xf (E1 Ek) (H5 _ _ _) ?_;refine xY B3 Eb λb8=>?_
 refine pD (lnR b a ts.length c) ?_;refine A1 Ef (E2 Et Et) (Q4 b a c ts _ _ _ _ _ hk (hs.trans Sb) (Rd.ofPt rfl (by decide) Me)) Lb (λv hv hx=>?_) λv9 h9 hr9=>?_
 ·obtain⟨hx1,rfl,rfl⟩:=hx;exact lnP Tryz.f91 (hq.trans (a5a hx1)) Sb
 obtain⟨hi9,a9,u9,hk9,rfl⟩:=hr9;rw[a5y hi9]at hq;refine ZZ [0,1] ?_;refine xf (E1 Ek) (H5 _ _ _) ?_;refine pD (lnR b a9 ts.tail.length u9) ?_;refine xg (E2 Et Et) (M9 b a9 u9 ts.tail _ _ _ hk9 (hs.trans Sb)) ?_;rintro _ _ ⟨a12,u12,r12,rfl,he12,hk12,rfl⟩;refine y0 ?_ ?_<;>intro c12
 replace he12:=he12.trans (if_pos c12);subst r12;rw[if_pos c12]at hq;refine Z1 ?_;refine xT (lnR b a12 ts.tail.tail.length u12::h) ?_;exact⟨_,_,_,_,[],hq,⟨none,0,rfl,Rd.nilF foE 6 m _,λ_ hx=>(qn hx).elim⟩,hk12,rfl⟩;replace he12:=he12.trans (if_neg (E6 c12));subst r12;rw[if_neg (E6 c12)]at hq;refine ZZ [0,2] ?_;refine pD (lnR b a12 ts.tail.length u12) ?_;refine A1 Ef (E4 Et Ek Ek Et) (c0s q take [44] 8 b a12 u12 ts.tail _ _ hk12 (hs.trans Sb) (by decide) ht) Lb (λv hv hx=>?_) λv15 h15 hr15=>?_
 ·obtain⟨e,hx1,rfl,rfl⟩:=hx;rw[hx1]at hq;exact lnP Tryz.f91 hq Sb
 obtain⟨x15,r15,a15,u15,bl15,hM15,⟨p15,q15,rfl,hR15,hO15⟩,hk15,rfl⟩:=hr15;refine mP ?_;rw[hM15,I5]at hq;refine ZZ [1,1] ?_;refine xf (E1 Ek) (H5 _ _ _) ?_;refine xY B3 Eb λb18=>?_
 refine pD (lnR b a15 r15.length u15) ?_;refine A1 Ef (E2 Et Et) (Q4 b a15 u15 r15 _ _ _ _ _ hk15 (hs.trans Sb) (Rd.ofPt rfl (by decide) Me)) Lb (λv hv hx=>?_) λv19 h19 hr19=>?_
 ·obtain⟨hx1,rfl,rfl⟩:=hx;exact lnP Tryz.f91 (hq.trans (a5a hx1)) Sb
 obtain⟨hi19,a19,u19,hk19,rfl⟩:=hr19;rw[a5y hi19]at hq;refine ZZ [0,2,0] ?_;refine xT (lnR b a19 r15.tail.length u19::(bl15++h)) ?_;exact⟨_,_,_,_,bl15,hq,⟨p15,q15,rfl,hR15,hO15⟩,hk19,rfl⟩
theorem b1o(a b c:Lr):c.Sublist (a++(b++c)):=(qc b c).trans (qc a _)
theorem b1U(a b c:Lr):b.Sublist (a++(b++c)):=(qg b c).trans (qc a _)
theorem c4j(ts:Lt):a7u ts=((a05 ts==0)&&isM 5 [38] (ts.drop (R1 ts))):=by
 unfold a7u a05 R1;cases hf:Q2 ts with
 |ok x=>obtain⟨x,k⟩:=x;rfl
 |error e=>rcases b4T hf with rfl|rfl<;>rfl
abbrev OG(m:View)(x:Gu)(v:Value)(bl:Lr):Prop:=∃g,v=guV g/\stG g=x/\GOk m bl g
theorem gok{m:View}{h:Lr}{k:Int}{n:B}{cond ch:Ex}{tg vl:Sli Ex}{time:Ex}(hk:0<=k/\k<=255)(hn:n.length<=Big)(h1:EOk m h cond)(h2:EOk m h ch)(h3:LOk m h tg)(h4:LOk m h vl)(h5:EOk m h time) :
 GOk m h (.mk k n cond ch tg vl time none 0 []):=⟨hk,hn,h1,h2,h3,h4,h5,Rd.nilF prE 42 m h⟩
abbrev g0(k:Int)(n:B)(cond ch:Ex)(tg vl:Sli Ex)(time:Ex):Gu:=.mk k n cond ch tg vl time none 0 []
abbrev gR(b:Nat)(g:Gu):Res:=.pt b (.cells (guE g).toArray 93 (0,0))
theorem c4m{m:View}(hg:Glob m)(b:Nat)(a:Oa)(c:Nat)(ts:Lt)(h hT:Lr)(hb:lnR b a ts.length c∈h)(hk:Tk2 m hT a c ts)(hs:hT.Sublist h) :
 CT prog 264 [ptV b] h m (A5 h (.bool (a7u ts))):=by
 have hle:=b00 (ts:=ts);refine cB [0,2,4,5,6] func264 λ_=>?_;refine ZZ [1,3] ?_;refine xG (C8 a2O rfl Et hb rfl) ?_;refine xg (E1 Et) (b1P hg a c ts _ (hk.k.mono (hs.trans Sb)) hk.n) ?_;rintro _ _ ⟨t12,bl,rfl,⟨hst,hU,hW⟩,rfl⟩;refine WL.perm (Mv.perm) ?_;refine kA4 ?_;refine xW λb3=>?_
 refine ZZ [3,3] ?_;refine xG (C8 a2O rfl Et (qt _ (qE _ hb)) rfl) ?_;refine kA1 ?_;refine xG (S4 B3.und B3.size Et Et rfl (by omega)) ?_;refine kA1 ?_;refine xW λb6=>?_;refine ZZ [1,3] ?_;refine A3 (GU.t rfl rfl) (λhc=>⟨Ef,(E1 Ek),H5 _ _ _⟩) Lb ?_;refine A3 (GU.t rfl rfl) (λhc=>⟨Ef,(E2 Et (Eg hc)),a4d b6 _ _ (ts.drop (R1 ts)) _ _ hT (by rw[qx];exact zx ..) (hk.drop hle) (hs.trans Sb)⟩) Lb ?_;refine Z2 ?_;refine wT h ?_;exact⟨by rw[c4j],rfl⟩
theorem c9p{m:View}(hg:Glob m)(b:Nat)(a:Oa)(c:Nat)(ts:Lt)(h hT:Lr)(hk:Tk2 m hT a c ts)(hs:hT.Sublist h):LnX m 185 [ptV b] b a c ts hT h (ifM ts) (OG m):=by
 have hq:ifM ts=I3 (G6 ts) λc r=>.ok (guM 1 [] c A0 [] [] A0,r):=rfl
 refine xB [0,2] func185 λ_=>?_;refine xW λb2=>?_
 refine ZZ [0,1] ?_;refine pD (lnR b a ts.length c) ?_;refine A1 Ef (E1 Et) (X6 hg b a c ts _ _ hk (hs.trans Sb)) Lb (λv hv hx=>?_) λv4 h4 hr4=>?_
 ·obtain⟨e,hx1,rfl,rfl⟩:=hx;rw[hx1]at hq;exact lnP Tryz.f185 hq Sb
 obtain⟨x4,r4,a4,u4,bl4,hM4,⟨t4,rfl,rfl,hO4⟩,hk4,rfl⟩:=hr4;refine mP ?_;rw[hM4,I5]at hq;refine Z2 ?_;refine xT (lnR b a4 r4.length u4::(bl4++h)) (h1:=cA a4C) ?_;exact⟨_,_,_,_,bl4,hq,⟨g0 1 [] t4 A0 A2 A2 A0,rfl,rfl,gok (by decide) (qi _) hO4 (B6 _ _) (B9 _ _) (B9 _ _) (B6 _ _)⟩,hk4,rfl⟩
theorem c2R{m:View}(hg:Glob m)(b:Nat)(a:Oa)(c:Nat)(ts:Lt)(h hT:Lr)(hk:Tk2 m hT a c ts)(hs:hT.Sublist h):LnX m 184 [ptV b] b a c ts hT h (a3D ts) (OG m):=by
 have hq:a3D ts=if a7u ts then I3 (G6 ts) λc r=>Q5 5 [38] r λr=>if isM 2 [83,75,73,80] r then .ok (guM 2 [] c A0 [] [] A0,r.tail)else a6h c r else a6h A0 ts:=rfl
 refine xB [0,2,3,16,28] func184 λ_=>?_;refine xW λb2=>?_
 refine ZZ [0,1] ?_;refine xW λb3=>?_;refine ZZ [1,1] ?_;refine xf (E1 Et) (c4m hg b a c ts _ hT Me hk (hs.trans Sb)) ?_;refine pD (lnR b a ts.length c) ?_;refine kP0 [0,2,3,6] ?_;refine D6 KKh [0,2,3] rfl (λF' h'=>∃tc:Ex,∃bl:Lr,∃x:Oa,∃y:Nat,∃r:Lt,(EOk m bl tc/\Tk2 m hT x y r/\a3D ts=a6h (B5 tc) r)/\F'=[]/\lnR b x r.length y::gR b3 (g0 3 [] tc A0 A2 A2 A0)::gR b2 (g0 0 [] A0 A0 A2 A2 A0)::(bl++h)=h') ?_ ?_;refine jE ?_;refine wc ?_ ?_<;>intro c6
 rw[if_pos c6]at hq;refine kA1 ?_;refine pD (lnR b a ts.length c) ?_;refine A1 Ef (E1 Et) (X6 hg b a c ts _ _ hk (hs.trans Sb)) Lb (λv hv hx=>?_) λv8 h8 hr8=>?_
 ·obtain⟨e,hx1,rfl,rfl⟩:=hx;rw[hx1]at hq;exact lnP Tryz.f184 hq Sb
 obtain⟨x8,r8,a8,u8,bl8,hM8,⟨t8,rfl,rfl,hO8⟩,hk8,rfl⟩:=hr8;refine mP ?_;rw[hM8,I5]at hq;refine ZZ [2,1] ?_;refine xf (E1 Ek) (H5 _ _ _) ?_;refine xY B3 Eb λb12=>?_
 refine pD (lnR b a8 r8.length u8) ?_;refine A1 Ef (E2 Et Et) (Q4 b a8 u8 r8 _ _ _ _ _ hk8 (hs.trans Sb) (Rd.ofPt rfl (by decide) Me)) Lb (λv hv hx=>?_) λv13 h13 hr13=>?_
 ·obtain⟨hx1,rfl,rfl⟩:=hx;exact lnP Tryz.f184 (hq.trans (a5a hx1)) Sb
 obtain⟨hi13,a13,u13,hk13,rfl⟩:=hr13;rw[a5y hi13]at hq;refine ZZ [0,1] ?_;refine xf (E1 Ek) (L9 _ _ _) ?_;refine pD (lnR b a13 r8.tail.length u13) ?_;refine xg (E2 Et Et) (M9 b a13 u13 r8.tail _ _ _ hk13 (hs.trans Sb)) ?_;rintro _ _ ⟨a16,u16,r16,rfl,he16,hk16,rfl⟩;refine y0 ?_ ?_<;>intro c16
 replace he16:=he16.trans (if_pos c16);subst r16;rw[if_pos c16]at hq;refine ZZ [2,2,0] ?_;refine xT (lnR b a16 r8.tail.tail.length u16::(bl8++h)) (h1:=cA a4C) ?_;exact⟨_,_,_,_,bl8,hq,⟨g0 2 [] t8 A0 A2 A2 A0,rfl,rfl,gok (by decide) (qi _) hO8 (B6 _ _) (B9 _ _) (B9 _ _) (B6 _ _)⟩,hk16,rfl⟩;replace he16:=he16.trans (if_neg (E6 c16));subst r16;rw[if_neg (E6 c16)]at hq;exact WC.skip (mN [] (lnR b a16 (r8.tail).length u16::gR b3 (g0 3 [] t8 A0 A2 A2 A0)::gR b2 (g0 0 [] A0 A0 A2 A2 A0)::(bl8++h)) ⟨t8,bl8,a16,u16,r8.tail,⟨hO8,hk16,hq⟩,rfl,rfl⟩);rw[if_neg (E6 c6)]at hq;exact WC.skip (mN [] (lnR b a ts.length c::gR b3 (g0 3 [] A0 A0 A2 A2 A0)::gR b2 (g0 0 [] A0 A0 A2 A2 A0)::(([])++h)) ⟨A0,[],a,c,ts,⟨B6 _ _,hk,hq⟩,rfl,rfl⟩);rintro _ _ ⟨tc,bl,x,y,r,⟨hC,hk1,hq⟩,rfl,rfl⟩;refine A9 rfl ?_
 replace hq:a3D ts=I3 (C5 r) λch r=>Q5 5 [63] r λr=>if isM 2 [65,70,84,69,82] r then I3 (G6 r.tail) λt r=>.ok (guM 4 [] (B5 tc) ch [] [] t,r)else I3 (H1 C5 [59] 8 r) λl r=>.ok (guM 3 [] (B5 tc) ch l [] A0,r):=hq
 refine kA1 ?_;refine pD (lnR b x r.length y) ?_;refine A1 Ef (E1 Et) (a1r hg b x y r _ _ hk1 (hs.trans Sb)) Lb (λv hv hx=>?_) λv20 h20 hr20=>?_
 ·obtain⟨e,hx1,rfl,rfl⟩:=hx;rw[hx1]at hq;exact lnP Tryz.f184 hq Sb
 obtain⟨x20,r20,a20,u20,bl20,hM20,⟨t20,rfl,rfl,hO20⟩,hk20,rfl⟩:=hr20;refine mP ?_;rw[hM20,I5]at hq;refine ZZ [2,1] ?_;refine xf (E1 Ek) (H5 _ _ _) ?_;refine xY B3 Eb λb24=>?_
 refine pD (lnR b a20 r20.length u20) ?_;refine A1 Ef (E2 Et Et) (Q4 b a20 u20 r20 _ _ _ _ _ hk20 (hs.trans Sb) (Rd.ofPt rfl (by decide) Me)) Lb (λv hv hx=>?_) λv25 h25 hr25=>?_
 ·obtain⟨hx1,rfl,rfl⟩:=hx;exact lnP Tryz.f184 (hq.trans (a5a hx1)) Sb
 obtain⟨hi25,a25,u25,hk25,rfl⟩:=hr25;rw[a5y hi25]at hq;refine ZZ [0,1] ?_;refine xf (E1 Ek) (L9 _ _ _) ?_;refine pD (lnR b a25 r20.tail.length u25) ?_;refine xg (E2 Et Et) (M9 b a25 u25 r20.tail _ _ _ hk25 (hs.trans Sb)) ?_;rintro _ _ ⟨a28,u28,r28,rfl,he28,hk28,rfl⟩;refine y0 ?_ ?_<;>intro c28
 replace he28:=he28.trans (if_pos c28);subst r28;rw[if_pos c28]at hq;refine kA1 ?_;refine pD (lnR b a28 r20.tail.tail.length u28) ?_;refine A1 Ef (E1 Et) (X6 hg b a28 u28 r20.tail.tail _ _ hk28 (hs.trans Sb)) Lb (λv hv hx=>?_) λv30 h30 hr30=>?_
 ·obtain⟨e,hx1,rfl,rfl⟩:=hx;rw[hx1]at hq;exact lnP Tryz.f184 hq Sb
 obtain⟨x30,r30,a30,u30,bl30,hM30,⟨t30,rfl,rfl,hO30⟩,hk30,rfl⟩:=hr30;refine mP ?_;rw[hM30,I5]at hq;refine ZZ [4,2,0] ?_;refine xT (lnR b a30 r30.length u30::(bl30++(bl20++(bl++h)))) (h1:=cA a4C) ?_;exact⟨_,_,_,_,bl30++(bl20++bl),hq,⟨g0 4 [] tc t20 A2 A2 t30,rfl,rfl,gok (by decide) (qi _) (hC.mono (b1o _ _ _)) (hO20.mono (b1U _ _ _)) (B9 _ _) (B9 _ _) (hO30.mono (qg _ _))⟩,hk30,by simp only[qj]⟩;replace he28:=he28.trans (if_neg (E6 c28));subst r28;rw[if_neg (E6 c28)]at hq;refine ZZ [0,2] ?_;refine xG (PO.makeFunc (E1 Et) Evs.nil) ?_;refine pD (lnR b a28 r20.tail.length u28) ?_;refine A1 Ef (E4 Et Ek Ek Et) (a1T 101 C5 [59] 8 b a28 u28 r20.tail _ _ hk28 (hs.trans Sb) (by decide) (λa c ts h hk hs=>a1r hg b a c ts h _ hk hs)) Lb (λv hv hx=>?_) λv37 h37 hr37=>?_
 ·obtain⟨e,hx1,rfl,rfl⟩:=hx;rw[hx1]at hq;exact lnP Tryz.f184 hq Sb
 obtain⟨x37,r37,a37,u37,bl37,hM37,⟨s37,rfl,rfl,hO37⟩,hk37,rfl⟩:=hr37;refine mP ?_;rw[hM37,I5]at hq;refine ZZ [2,2,0] ?_;refine xT (lnR b a37 r37.length u37::(bl37++(bl20++(bl++h)))) (h1:=cA a4C) ?_;exact⟨_,_,_,_,bl37++(bl20++bl),hq,⟨g0 3 [] tc t20 s37 A2 A0,rfl,rfl,gok (by decide) (qi _) (hC.mono (b1o _ _ _)) (hO20.mono (b1U _ _ _)) (hO37.mono (qg _ _)) (B9 _ _) (B6 _ _)⟩,hk37,by simp only[qj]⟩
theorem c7s{m:View}(hg:Glob m)(b:Nat)(a:Oa)(c:Nat)(ts:Lt)(h hT:Lr)(hk:Tk2 m hT a c ts)(hs:hT.Sublist h):LnX m 186 [ptV b] b a c ts hT h (a9u ts) (OG m):=by
 have hq:a9u ts=if isM 2 [69,76,83,69] ts then .ok (guM 6 [] A0 A0 [] [] A0,ts.tail)else I3 (H1 G6 [44] 8 ts) λl r=>.ok (guM 5 [] A0 A0 [] l A0,r):=rfl
 refine xB [0,2,5] func186 λ_=>?_;refine xW λb2=>?_
 refine ZZ [0,1] ?_;refine xf (E1 Ek) (L9 _ _ _) ?_;refine pD (lnR b a ts.length c) ?_;refine xg (E2 Et Et) (M9 b a c ts _ _ _ hk (hs.trans Sb)) ?_;rintro _ _ ⟨a5,u5,r5,rfl,he5,hk5,rfl⟩;refine y0 ?_ ?_<;>intro c5
 replace he5:=he5.trans (if_pos c5);subst r5;rw[if_pos c5]at hq;refine Z2 ?_;refine xT (lnR b a5 ts.tail.length u5::h) (h1:=cA a4C) ?_;exact⟨_,_,_,_,[],hq,⟨g0 6 [] A0 A0 A2 A2 A0,rfl,rfl,gok (by decide) (qi _) (B6 _ _) (B6 _ _) (B9 _ _) (B9 _ _) (B6 _ _)⟩,hk5,rfl⟩;replace he5:=he5.trans (if_neg (E6 c5));subst r5;rw[if_neg (E6 c5)]at hq;refine ZZ [0,2] ?_;refine xG (PO.makeFunc (E1 Et) Evs.nil) ?_;refine pD (lnR b a5 ts.length u5) ?_;refine A1 Ef (E4 Et Ek Ek Et) (a1T 98 G6 [44] 8 b a5 u5 ts _ _ hk5 (hs.trans Sb) (by decide) (λa c ts h hk hs=>X6 hg b a c ts h _ hk hs)) Lb (λv hv hx=>?_) λv10 h10 hr10=>?_
 ·obtain⟨e,hx1,rfl,rfl⟩:=hx;rw[hx1]at hq;exact lnP Tryz.f186 hq Sb
 obtain⟨x10,r10,a10,u10,bl10,hM10,⟨s10,rfl,rfl,hO10⟩,hk10,rfl⟩:=hr10;refine mP ?_;rw[hM10,I5]at hq;refine Z2 ?_;refine xT (lnR b a10 r10.length u10::(bl10++h)) (h1:=cA a4C) ?_;exact⟨_,_,_,_,bl10,hq,⟨g0 5 [] A0 A0 A2 s10 A0,rfl,rfl,gok (by decide) (qi _) (B6 _ _) (B6 _ _) (B9 _ _) hO10 (B6 _ _)⟩,hk10,rfl⟩
theorem c7O{m:View}(hg:Glob m)(b:Nat)(a:Oa)(c:Nat)(ts:Lt)(h hT:Lr)(hk:Tk2 m hT a c ts)(hs:hT.Sublist h):LnX m 116 [ptV b] b a c ts hT h (a6q ts) (OG m):=by
 have hq:a6q ts=I3 (O0 ts) λn r=>if isM 5 [59] r then I3 (H1 C5 [59] 8 r.tail) λl r=>.ok (guM 7 n A0 A0 l [] A0,r)else .ok (guM 7 n A0 A0 [] [] A0,r):=rfl
 refine xB [0,2,3] func116 λ_=>?_;refine xW λb2=>?_
 refine ZZ [0,1] ?_;refine pD (lnR b a ts.length c) ?_;refine A1 Ef (E1 Et) (a2k b a c ts _ _ hk (hs.trans Sb)) Lb (λv hv hx=>?_) λv5 h5 hr5=>?_
 ·obtain⟨e,hx1,rfl,rfl⟩:=hx;rw[hx1]at hq;exact lnP Tryz.f116 hq Sb
 obtain⟨x5,r5,a5,u5,hM5,⟨rfl,hw5⟩,hk5,rfl⟩:=hr5;rw[hM5,I5]at hq;refine kA1 ?_;refine xW λb3=>?_
 refine ZZ [1,1] ?_;refine xf (E1 Ek) (H5 _ _ _) ?_;refine pD (lnR b a5 r5.length u5) ?_;refine xg (E2 Et Et) (M9 b a5 u5 r5 _ _ _ hk5 (hs.trans Sb)) ?_;rintro _ _ ⟨a9,u9,r9,rfl,he9,hk9,rfl⟩;refine kP0 [0,2,3,9] ?_;refine D6 KKh [2,3] rfl (λF' h'=>∃l:Sli Ex,∃bl:Lr,∃x:Oa,∃y:Nat,∃r:Lt,(LOk m bl l/\Tk2 m hT x y r/\a6q ts=.ok (guM 7 x5 A0 A0 (l.l.map B5) [] A0,r))/\F'=[]/\lnR b x r.length y::gR b3 (g0 7 x5 A0 A0 l A2 A0)::gR b2 (g0 0 [] A0 A0 A2 A2 A0)::(bl++h)=h') ?_ ?_;refine jE ?_;refine wc ?_ ?_<;>intro c9
 replace he9:=he9.trans (if_pos c9);subst r9;rw[if_pos c9]at hq;refine kA2 ?_;refine xG (PO.makeFunc (E1 Et) Evs.nil) ?_;refine pD (lnR b a9 r5.tail.length u9) ?_;refine A1 Ef (E4 Et Ek Ek Et) (a1T 101 C5 [59] 8 b a9 u9 r5.tail _ _ hk9 (hs.trans Sb) (by decide) (λa c ts h hk hs=>a1r hg b a c ts h _ hk hs)) Lb (λv hv hx=>?_) λv13 h13 hr13=>?_
 ·obtain⟨e,hx1,rfl,rfl⟩:=hx;rw[hx1]at hq;exact lnP Tryz.f116 hq Sb
 obtain⟨x13,r13,a13,u13,bl13,hM13,⟨s13,rfl,rfl,hO13⟩,hk13,rfl⟩:=hr13;refine mP ?_;rw[hM13,I5]at hq;refine kA2 ?_;exact WL.nil (mN [] (lnR b a13 r13.length u13::gR b3 (g0 7 x5 A0 A0 s13 A2 A0)::gR b2 (g0 0 [] A0 A0 A2 A2 A0)::(bl13++h)) ⟨s13,bl13,a13,u13,r13,⟨hO13,hk13,hq⟩,rfl,rfl⟩);replace he9:=he9.trans (if_neg (E6 c9));subst r9;rw[if_neg (E6 c9)]at hq;exact WC.skip (mN [] (lnR b a9 r5.length u9::gR b3 (g0 7 x5 A0 A0 A2 A2 A0)::gR b2 (g0 0 [] A0 A0 A2 A2 A0)::(([])++h)) ⟨A2,[],a9,u9,r5,⟨B9 _ _,hk9,hq⟩,rfl,rfl⟩);rintro _ _ ⟨l,bl,x,y,r,⟨hL,hk1,hq⟩,rfl,rfl⟩;refine A9 rfl ?_;refine Z2 ?_;refine xT (lnR b x r.length y::(bl++h)) (h1:=cA a4C) ?_;exact⟨_,_,_,_,bl,hq,⟨g0 7 x5 A0 A0 l A2 A0,rfl,rfl,gok (by decide) hw5 (B6 _ _) (B6 _ _) hL (B9 _ _) (B6 _ _)⟩,hk1,rfl⟩
end
section
open Go.Eng Go.Lx Go.Ty
theorem c6z(b:Nat)(line:B)(p:Nat)(h:Lr)(m:View)(hr:rdr b line p∈h)(hp:p<line.length)(hs:line.length<=140737488355328):CT prog 192 [.pointer (some ⟨b,0,none⟩)] h m (A5 h (tkR (a0T (line.drop p)))):=by
 have hl0:(line.drop p).length=line.length-p:=qx;have hl':((line.drop p).drop 1).length<=9223372036854775807:=by rw[qx];omega
 have hl2:((line.drop p).drop 1).length<=140737488355328:=by rw[qx];omega
 have hle:=b3F ((line.drop p).drop 1);generalize hs0:(line.drop p).drop 1=s at *;have hq:(M4 s).2<s.length->s[(M4 s).2]?=some (s.getD (M4 s).2 0):=λhi=>by rw[ql,qk hi];rfl
 refine cB [0,2,3,4,5,6,28] func192 λ_=>?_;refine xW λb2=>?_
 refine ZZ [1,1] ?_;refine xf (E1 Et) (a2d b line p _ _ (qD _ hr) (by omega)) ?_;refine xG (a2L uu9 Et Ek (l:=1) rfl (by omega)) ?_;refine WL.val (v':=str s) (congrArg str hs0) ?_;refine ZZ [1,1] ?_;refine xf (E1 Et) (c5Z s _ _ hl') ?_;refine ZZ [5,5] ?_;refine zG (λhc=>G0 uu9 (Eg hc)) ?_;refine kA5 ?_;refine C2 (GU.f rfl rfl) (λhc=>F3 uu9 (Eg hc) (Eg hc) rfl (hq (by simp at hc;omega))) Lb ?_;refine y2 ?_ ?_<;>intro c28
 have d28:noQ s (M4 s).2=true:=c28;refine Z3 ?_;refine w2 h (h1:=cA C7) ?_;exact⟨by unfold a0T;rw[hs0,d28];rfl,rfl⟩;have d28:noQ s (M4 s).2=false:=c28;refine ZZ [0,6,0] ?_;refine w2 h (h1:=cA C7) ?_;exact⟨by unfold a0T;rw[hs0,d28];rfl,rfl⟩
theorem c5N(b:Nat)(line:B)(p:Nat)(h:Lr)(m:View)(hg:Glob m)(hr:rdr b line p∈h)(hp:p<=line.length)(hs:line.length<=140737488355328):CT prog 193 [.pointer (some ⟨b,0,none⟩)] h m (A5 h (tkR (a6X (line.drop p)))):=by
 have hl:(line.drop p).length<=140737488355328:=by rw[qx];omega
 have hE:=c3t (line.drop p);refine cB [0,2,3,4,5,11,19] func193 λ_=>?_;refine xW λb2=>?_
 refine ZZ [1,1] ?_;refine xf (E1 Et) (a2d b line p _ _ (qD _ hr) hp) ?_;refine xG (G0 uu9 Et) ?_;refine xG (PO.min Ek Et) ?_;refine WL.val (v':=.int .i64 ((min 2 (line.drop p).length:Nat):Int)) (congrArg (Value.int .i64) (by omega)) ?_;refine Z1 ?_;refine lI [0,2] (λμ F' h'=>∃k:Nat,((k<=2/\k<=(line.drop p).length)/\a6X (line.drop p)=b0j (line.drop p) k)/\k=μ/\F'=[(4,.int .i64 k)]/\.pt b2 (.cells (B1 zeroK).toArray 116 (0,0))::h=h') (((min 2 (line.drop p).length:Nat))) [(4,.int .i64 ((min 2 (line.drop p).length:Nat)))] (.pt b2 (.cells (B1 zeroK).toArray 116 (0,0))::h) ⟨(min 2 (line.drop p).length:Nat),⟨by omega,hE⟩,rfl,rfl,rfl⟩ ?_;rintro _ _ _ ⟨k,⟨hk,hJ⟩,rfl,rfl,rfl⟩;refine A9 rfl ?_;refine Z2 ?_;refine wD ?_ ?_<;>intro c11
 obtain⟨j,rfl⟩:∃j,k=j+1:=⟨k-1,by omega⟩;rw[b0j]at hJ;refine ZZ [0,1] ?_;refine xf (E1 Et) (a2d b line p _ _ (qD _ hr) hp) ?_;refine kA1 ?_;refine xG (O6 uu9 Et Et rfl (by omega)) ?_;refine ZZ [1,1] ?_;refine xf (E1 Et) (b3U _ _ _ hg) ?_;refine y0 ?_ ?_<;>intro c19
 rw[c19]at hJ;refine Z5 ?_;refine w2 h (h1:=cA C7) ?_;exact⟨by rw[hJ];rfl,rfl⟩;rw[c19]at hJ;refine ZZ [0,1] ?_;refine xG (P3 Et Ek (by omega)) ?_;refine kA1 ?_;exact WL.nil (lN (j) [(4,.int .i64 j)] (.pt b2 (.cells (B1 zeroK).toArray 116 (0,0))::h) ⟨j,⟨by omega,by simpa using hJ⟩,rfl,rfl,rfl⟩);have e:k=0:=by omega
 subst e;refine ZZ [0,3,0] ?_;refine w2 h (h1:=cA C7) ?_;exact⟨by rw[hJ];rfl,rfl⟩
def nxF(c:UInt8):FuncId:=if ltr c.toNat then 188 else if dig c.toNat then 190 else if(c.toNat:Int)==35 then 191 else if(c.toNat:Int)==39 then 192 else 193
theorem b9E(b:Nat)(line:B)(p:Nat)(c:UInt8)(h:Lr)(m:View)(hr:rdr b line p∈h)(hc:line[p]?=some c):CT prog 117 [.pointer (some ⟨b,0,none⟩)] h m (A5 h (.func (.func (nxF c)) #[.pointer (some ⟨b,0,none⟩)] #[])):=by
 have hp:p<line.length:=(qd.1 hc).1;refine cB [0,2,3,13,18,23,28] func117 λ_=>?_;refine Z1 ?_;refine dS [] (.op 0 (.op 1 (.op 2 (.op 3 (.op 4 (.op 5 (.op 6 (.op 7 .nil)))))))) [8,9] C9 ?_;refine kA3 ?_;refine yG rfl (C8 uu9 rfl Et hr rfl) ?_;refine kA3 ?_;refine yG rfl (C8 uu3 rfl Et hr rfl) ?_;refine nS ?_;refine xG (F3 uu9 Et Et rfl (by assumption)) ?_;refine ZZ [1,1] ?_;refine xf (E1 Et) (a5M _ _ _) ?_;refine y1 ?_ ?_<;>intro c13
 refine kA1 ?_;refine xG (PO.makeFunc (E1 Et) Evs.nil) ?_;refine Z1 ?_;refine wT h ?_;exact⟨by unfold nxF;rw[c13];rfl,rfl⟩;refine kA1 ?_;refine xf (E1 Et) (a9j _ _ _) ?_;refine y1 ?_ ?_<;>intro c18
 refine kA1 ?_;refine xG (PO.makeFunc (E1 Et) Evs.nil) ?_;refine Z1 ?_;refine wT h ?_;exact⟨by unfold nxF;rw[c13,c18];rfl,rfl⟩;refine Z3 ?_;refine wc ?_ ?_<;>intro c23
 refine kA1 ?_;refine xG (PO.makeFunc (E1 Et) Evs.nil) ?_;refine Z1 ?_;refine wT h ?_;exact⟨by unfold nxF;rw[c13,c18,c23];rfl,rfl⟩;refine Z3 ?_;refine wc ?_ ?_<;>intro c28
 refine kA1 ?_;refine xG (PO.makeFunc (E1 Et) Evs.nil) ?_;refine Z1 ?_;refine wT h ?_;exact⟨by unfold nxF;rw[c13,c18,c23,c28];rfl,rfl⟩;refine ZZ [0,1] ?_;refine xG (PO.makeFunc (E1 Et) Evs.nil) ?_;refine Z1 ?_;refine wT h ?_;exact⟨by unfold nxF;rw[c13,c18,c23,c28];rfl,rfl⟩
theorem c5o(b:Nat)(line:B)(p:Nat)(c:UInt8)(h:Lr)(m:View)(hg:Glob m)(hr:rdr b line p∈h)(hc:line[p]?=some c)(hs:line.length<=140737488355328):CT prog (nxF c) [.pointer (some ⟨b,0,none⟩)] h m (A5 h (tkR (tok (line.drop p)))):=by
 have hp:p<line.length:=(qd.1 hc).1;have e0:chB (line.drop p) 0=(c.toNat:Int):=b3c (by rw[zL];simpa using hc);unfold nxF tok;rw[e0];split
 ·exact c00 b line p h m hg hr (by omega) hs
 ·split
  ·exact c7x b line p h m hr (by omega) hs
  ·split
   ·exact c7C b line p h m hr hp hs
   ·split
    ·exact c6z b line p h m hr hp hs
    ·exact c5N b line p h m hg hr (by omega) hs
def c9g(h:Lr)(o:Lt×Int×Int):Value->View->Lr->Prop:=λv _ h'=>∃a c,v=.tuple #[.slice a o.1.length c,.int .i64 o.2.1,.int .i64 o.2.2]/\h'=.row (.slice a o.1.length c) 116 4 o.1.length (fl B1 o.1)::h
theorem b4c(line:B)(h:Lr)(m:View)(hg:Glob m)(hs:line.length<=140737488355328):CT prog 48 [str line] h m (c9g h (lexO line)):=by
 refine cB [0,2,3,4,5,6,7,10,20,27,42] func48 λ_=>?_;refine WL.addNil 116 4 ?_;refine ZZ [3,1] ?_;refine xG (G0 uu9 Et) ?_;refine y1 ?_ ?_<;>intro c10
 refine Z3 ?_;refine w3 (.row (.slice none 0 0) 116 4 0 []::h) ?_;exact⟨none,0,by rw[a2n c10];rfl,by rw[a2n c10];rfl⟩;have h256:line.length<=256:=by have:=zz c10;omega
 have hO:=a4D c10;refine ZZ [0,2] ?_;refine xX λb13=>?_;refine Z1 ?_;refine lI [0,5] (λμ F' h'=>∃p:Nat,∃n:Nat,∃l:Lt,∃a:Oa,∃c:Nat,((p<=line.length/\n<=p/\l.length=n)/\lx line 0=a6g l (lx (line.drop p) p))/\line.length-p=μ/\F'=[(2,.slice a n c)]/\rdr b13 line p::.row (.slice a n c) 116 4 n (fl B1 l)::h=h') (line.length-0) [(2,.slice none 0 0)] (rdr b13 line 0::.row (.slice none 0 0) 116 4 0 (fl B1 ([]))::h) ⟨0,0,[],none,0,⟨⟨by omega,by decide,rfl⟩,by rw[b4p];rfl⟩,rfl,rfl,rfl⟩ ?_;rintro _ _ _ ⟨p,n,l,a,c,⟨⟨hp,hnp,hl⟩,hJ⟩,rfl,rfl,rfl⟩;refine A9 rfl ?_;refine kA5 ?_;refine xG (G0 uu9 Et) ?_;refine y4 ?_ ?_<;>intro c20
 obtain⟨x,hx⟩:=A8 (l:=line) (k:=p) (by omega);refine ZZ [0,5] ?_;refine xG (F3 uu9 Et Et rfl (by assumption)) ?_;refine y1 ?_ ?_<;>intro c27
 rw[a8Q]at c27;have hx32:line[p]?=some 32:=by rw[hx,eq_of_beq c27]
 refine Z8 ?_;exact WC.exit (lN (line.length-(p+1)) [(2,.slice a n c)] (rdr b13 line (p+1)::.row (.slice a n c) 116 4 n (fl B1 l)::h) ⟨p+1,n,l,a,c,⟨⟨by omega,by omega,hl⟩,a9g hx32 hJ⟩,rfl,rfl,rfl⟩);rw[a8Q]at c27;have hne:x≠32:=by simpa using c27
 have hn:=b2K (line.drop p);rw[qx]at hn;refine ZZ [0,1] ?_;refine xf (E1 Et) (b9E b13 line p x _ _ Me hx) ?_;refine P6 (Ev.tmp rfl) Evs.nil (c5o b13 line p x _ _ hg Me hx hs) Lb ?_;refine kA3 ?_;refine xW λb6=>?_
 refine ZZ [2,2,0] ?_;refine wc ?_ ?_<;>intro c42
 have hn0:(tok (line.drop p)).2=0:=by simp at c42;omega
 have hE:=b5a hx hne hn0 hJ;refine jE ?_;refine dS [] (.op 0 (.op 1 (.op 2 (.op 3 (.op 4 .nil))))) [5,6] C9 ?_;refine kA4 ?_;refine yG rfl (PO.assign Ek) ?_;refine nS ?_;refine WL.addNil 116 4 ?_;refine Z2 ?_;refine w3 (.row (.slice none 0 0) 116 4 0 []::h) ?_;exact⟨none,0,by rw[hO,hE];rfl,by rw[hO,hE];rfl⟩;have hn0:(tok (line.drop p)).2≠0:=by simp at c42;omega
 have hE:=b4t hx hne hn0 hJ;refine ZZ [0,6,2] ?_;refine xY B3 Eb λb54=>?_;refine xD B3 (Ev.tmp rfl) (Ev.tmp rfl) rfl (D9 (enc:=B1) _ ({ (tok (line.drop p)).1 with at_:=p })) λa55 c55=>?_
 refine ZZ [1,5] ?_;refine xG (K3 Et Et (by omega)) ?_;refine kA3 ?_;exact WL.nil (lN (line.length-(p+(tok (line.drop p)).2)) [(2,.slice a55 (n+1) c55)] (rdr b13 line (p+(tok (line.drop p)).2)::.row (.slice a55 (n+1) c55) 116 4 (n+1) (fl B1 (l++[{ (tok (line.drop p)).1 with at_:=p }]))::h) ⟨p+(tok (line.drop p)).2,n+1,l++[{ (tok (line.drop p)).1 with at_:=p }],a55,c55,⟨⟨by omega,by omega,by rw[qh,qO,hl]⟩,hE⟩,rfl,rfl,rfl⟩);rw[qb (by omega),c0P]at hJ;have hE:lx line 0=.ok l:=by rw[hJ];simp[a6g]
 subst hl;refine ZZ [0,4,0] ?_;refine w3 (.row (.slice a l.length c) 116 4 l.length (fl B1 l)::h) ?_;exact⟨a,c,by rw[hO,hE];rfl,by rw[hO,hE];rfl⟩
end
section
open Go.Eng Go.Pc Go.Sx Go
open Go.Xp hiding B E8
open Go.Ty (Ty Vr Tok eqT tyV E9 B1 A7 I6 zeroK H3 E5)
open Go.Lx (encB C0 lexO)
open Go.Ly (Rw K7 C6)
abbrev psR(z:Pz)(i:Nat):Res:=.pt z.bp (.cells [.slice z.ra z.R.length z.rc,.int .i64 (i:Nat)].toArray 58 (0,0))
abbrev tkW(a:Oa)(c:Nat)(ts:Lt):Res:=.row (.slice a ts.length c) 116 4 ts.length (fl B1 ts)
abbrev prR(b:Nat)(p:Pr):Res:=.pt b (.cells (prE p).toArray 46 (0,0))
abbrev PrE{β:Type}(z:Pz)(M:Except (Int×Nat) β)(h:Lr)(v:Value)(h':Lr):Prop:=∃e j,M=.error (e,j)/\v=wrV e/\h'=psR z j::h
abbrev PrX{α:Type}(m:View)(z:Pz)(f:FuncId)(args:Lv)(i:Nat)(h0 h:Lr)(M:PE α)(O:α->Value->Lr->Prop):Prop:=
 CX prog f args (psR z i::h0) m (λv _ h'=>∃x j bl,M=.ok (x,j)/\(i<j/\j<=z.R.length)/\O x v bl/\h'=psR z j::(bl++h)) (λv h'=>PrE z M h v h')
abbrev OP(m:View)(x:Pr)(v:Value)(bl:Lr):Prop:=∃p,v=prV p/\stP p=x/\POk m bl p
abbrev OGs(m:View)(x:List Gu)(v:Value)(bl:Lr):Prop:=∃a c l,v=.slice a l.length c/\l.map stG=x/\Gs m bl a c l
theorem F8{x:Res}{l:Lr}(h:x∈l):[x].Sublist l:=List.singleton_sublist.2 h
theorem prP{β:Type}(fn:Func){n:Cx}{F:Fm}{H h:Lr}{m:View}{z:Pz}{R:Value->View->Lr->Prop}{M:Except (Int×Nat) β}{e:Int}{j:Nat}(hq:M=.error (e,j))(hd:(psR z j::h).Sublist H)(hds:n.ds=[]:=by rfl) :
 ∀a w,Fr n F a->St m H w->bodyPost prog fn (RX m R (λv h'=>PrE z M h v h')) (.panic [{ v:=wrV e,recovered:=false }]) a w:=a2G (psR z j::h) Vl hd ⟨e,j,hq,rfl,rfl⟩ hds
theorem a6E{m:View}{z:Pz}(hz:Pok m z)(i:Nat)(d:Int)(h:Lr)(hb:psR z i∈h):CT prog 49 [ptV z.bp,.int .i64 d] h m (A5 h (.bool (H6 z.R d i))):=by
 have hrd:=hz.rd.mono Vl (zH h);obtain⟨x,hx⟩:∃x,x=z.R.getD i ⟨0,0,[]⟩:=⟨_,rfl⟩;have hel:i<z.R.length->z.R[i]?=some x:=λhq=>by rw[hx,ql,qk hq];rfl
 have hH:H6 z.R d i=(decide ((i:Int)<z.R.length)&&(x.depth==d)):=by
  unfold H6;by_cases hq:i<z.R.length
  ·rw[hel hq,zh (by omega:(i:Int)<z.R.length)];rfl
  ·rw[qS (by omega),zd (by omega:¬(i:Int)<z.R.length)];rfl
 refine cB [0,1,4] func49 λ_=>?_;refine Z1 ?_;refine dS [] (.op 0 (.op 1 (.op 2 (.op 3 (.op 4 (.op 5 (.op 6 (.op 7 (.op 8 (.op 9 (.op 10 (.op 11 (.op 12 (.op 13 (.op 14 (.op 15 (.op 16 (.op 17 (.op 18 (.op 19 (.op 20 (.op 21 (.op 22 .nil))))))))))))))))))))))) [23,24,25] C9 ?_;refine kA3 ?_;refine yG rfl (C8 uu3 rfl Et hb rfl) ?_;refine kA3 ?_;refine yG rfl (C8 a6b rfl Et hb rfl) ?_;refine yG rfl (R8 a6b Et) ?_;refine yG rfl (O4 Et Et rfl) ?_;refine kA1 ?_;refine B2 rfl rfl (GU.t rfl rfl) (λhc=>PO.move Et) Lb ?_;refine B2 rfl rfl (GU.t rfl rfl) (λhc=>PO.nilCheck (Eg hc)) Lb ?_;refine B2 rfl rfl (GU.t rfl rfl) (λhc=>PO.fieldAddr c84 rfl (qf rfl) (Eg hc)) Lb ?_;refine B2 rfl rfl (GU.t rfl rfl) (λhc=>C8 a6b rfl (Eg hc) hb rfl) Lb ?_;refine B2 rfl rfl (GU.t rfl rfl) (λhc=>PO.move Et) Lb ?_;refine B2 rfl rfl (GU.t rfl rfl) (λhc=>PO.nilCheck (Eg hc)) Lb ?_
 refine B2 rfl rfl (GU.t rfl rfl) (λhc=>PO.fieldAddr c84 rfl (qf rfl) (Eg hc)) Lb ?_;refine B2 rfl rfl (GU.t rfl rfl) (λhc=>C8 uu3 rfl (Eg hc) hb rfl) Lb ?_;refine B2 rfl rfl (GU.t rfl rfl) (λhc=>D7 V1.und V1.size V1.posz (Eg hc) (Eg hc) Rr rfl (by simp at hc;omega)) Lb ?_;refine B2 rfl rfl (GU.t rfl rfl) (λhc=>D0 a8Y rfl (qf rfl) C6 (qu _) Rr (hel (by simp at hc;omega)) (Eg hc)) Lb ?_;refine B2 rfl rfl (GU.t rfl rfl) (λhc=>D2 uu3 rfl C6 Rr (Eg hc) (hel (by simp at hc;omega)) rfl) Lb ?_;refine B2 rfl rfl (GU.t rfl rfl) (λhc=>PO.move Et) Lb ?_;refine nS ?_;refine Z3 ?_;refine wT h ?_;exact⟨by rw[hH],rfl⟩
theorem c1J{m:View}(hg:Glob m)(line:B)(h:Lr)(hs:line.length<=140737488355328):CX prog 48 [str line] h m (λv _ h'=>∃hp',h'=hp'++h/\∃a c,v=.tuple #[.slice a (lexO line).1.length c,.int .i64 (lexO line).2.1,.int .i64 (lexO line).2.2]/\hp'=[tkW a c (lexO line).1]) (λ_ _=>False):=
 CX.ofCT (CT.conv (b4c line h m hg hs) λ_ m' _ _ _ st ⟨a,c,e1,e2⟩=>⟨m',[tkW a c (lexO line).1]++h,Vl,by rw[e2]at st;exact st,_,rfl,a,c,e1,rfl⟩)
theorem a4z{m:View}(hg:Glob m){z:Pz}(hz:Pok m z)(i:Nat)(d:Int)(h:Lr)(hi:i<=z.R.length):CX prog 26 [ptV z.bp,.int .i64 d] (psR z i::h) m
 (λv _ h'=>∃ts b a c,V3 z.R d i=.ok ts/\v=ptV b/\Tk2 m [tkW a c ts] a c ts/\h'=lnR b a ts.length c::tkW a c ts::psR z i::h) (λv h'=>PrE z (V3 z.R d i) h v h'):=by
 have hrd:=hz.rd.mono Vl (zH (psR z i::h));obtain⟨x,hx⟩:∃x,x=z.R.getD i ⟨0,0,[]⟩:=⟨_,rfl⟩;have hel:i<z.R.length->z.R[i]?=some x:=λhq=>by rw[hx,ql,qk hq];rfl
 have hq:V3 z.R d i=if i<z.R.length then(if(lexO x.text).2.2≠0 then .error ((lexO x.text).2.2,i)else if x.depth≠d then .error (110,i)else .ok (lexO x.text).1)else .error (110,i):=by
  by_cases hq:i<z.R.length
  ·rw[if_pos hq];unfold V3;rw[hel hq]
  ·rw[if_neg hq];exact a2t (by omega)
 have hH:i<z.R.length->H6 z.R d i=(x.depth==d):=λhq=>by unfold H6;rw[hel hq]
 refine xB [0,1,4,5,7,17,36,43] func26 λ_=>?_;refine Z1 ?_;refine dS [] (.op 0 (.op 1 (.op 2 (.op 3 (.op 4 (.op 5 (.op 6 (.op 7 (.op 8 .nil))))))))) [9] C9 ?_;refine kA8 ?_;refine yG rfl (R8 a6b Et) ?_;refine nS ?_;refine Z1 ?_;refine wE ?_ ?_<;>intro c17
 rw[if_neg (by omega)]at hq;refine j0 ?_;refine A1 Ef Evs.nil (I7 _ _) Lb (λv hv hx=>?_) λv18 h18 hr18=>?_
 ·obtain⟨rfl,rfl⟩:=hx;exact prP Tryz.f26 hq Sb
 exact hr18.elim;have hi2:i<z.R.length:=by omega
 rw[if_pos hi2]at hq;have hel:=hel hi2;have hH:=hH hi2;have htx:=(hz.ok.2 x (qe hel)).2.2;refine Z0 ?_;refine F4 [11] (.op 0 (.op 1 (.op 2 (.op 3 (.op 4 (.op 5 (.op 6 (.op 7 (.op 8 (.op 9 (.op 10 (.op 11 (.op 12 (.op 13 (.op 14 (.op 15 .nil)))))))))))))))) [16,17,18] _ [] C9 (λ_ _ _ _ _ h=>h) [14,15] (by kernel_rfl) ?_;refine kA8 ?_;refine yG rfl (D7 V1.und V1.size V1.posz (Ev.tmp rfl) (Ev.tmp rfl) Rr rfl (q:=i) (by omega)) ?_;refine kA2 ?_;refine R7 rfl rfl Ef (E1 Et) (λfr=>c1J hg x.text _ (by omega)) Lb (λfr v hv hx=>?_) λv31 h31 hr31=>?_
 ·exact hx.elim
 obtain⟨a31,c31,rfl,rfl⟩:=hr31;refine kA1 ?_;refine yG rfl (PO.extract Et rfl) ?_;refine yG rfl (PO.extract Et rfl) ?_;refine yG rfl (PO.extract Et rfl) ?_;refine nS ?_;refine ZZ [3,2,0] ?_;refine wN ?_ ?_<;>intro c36
 rw[if_pos c36]at hq;refine kA2 ?_;refine xG (a0a c6m Et) ?_;refine WL.panic Et (a2G (P:=prog) (fn:=Tryz.f26) (psR z i::h) Vl Sb ?_);exact⟨_,_,hq,rfl,rfl⟩;rw[if_neg (by omega)]at hq;refine ZZ [0,2] ?_;refine xf (E2 Et Et) (CT.val (a6E hz i d _ Me) (congrArg Value.bool hH)) ?_;refine y1 ?_ ?_<;>intro c43
 have d43:x.depth≠d:=by simpa using c43
 rw[if_pos d43]at hq;refine j0 ?_;refine A1 Ef Evs.nil (I7 _ _) Lb (λv hv hx=>?_) λv44 h44 hr44=>?_
 ·obtain⟨rfl,rfl⟩:=hx;exact prP Tryz.f26 hq Sb
 exact hr44.elim;have d43:x.depth=d:=by simpa using c43
 rw[if_neg (by rw[d43];exact λq=>q rfl)]at hq;have hb:=a6s x.text;refine H4 (a:=a31) Me λp31 q31 r31=>?_
 refine ZZ [0,2] ?_;refine xX λb47=>?_;refine Z1 ?_;refine xT (lnR b47 a31 (lexO x.text).1.length c31::tkW a31 c31 (lexO x.text).1::psR z i::h) ?_;exact⟨(lexO x.text).1,b47,a31,c31,hq,rfl,⟨⟨Rd.inRow (qm _) r31 p31 q31,by omega,b7Y _⟩,λt ht=>(hb.2 t ht).2⟩,rfl⟩
theorem M5{m:View}{z:Pz}(hz:Pok m z)(i:Nat)(b:Nat)(a:Oa)(c:Nat)(ts:Lt)(h:Lr)(hi:i<=z.R.length):CX prog 93 [ptV z.bp,ptV b] (psR z i::lnR b a ts.length c::h) m
 (λ_ _ h'=>ts=[]/\h'=psR z (i+1)::h) (λv h'=>ts≠[]/\v=wrV 110/\h'=psR z i::h):=by
 have hR:=hz.ok.1;refine xB [0,9] func93 λ_=>?_;refine Z6 ?_;refine wD ?_ ?_<;>intro c9
 refine j0 ?_;refine A1 Ef Evs.nil (I7 _ _) Lb (λv hv hx=>?_) λv10 h10 hr10=>?_
 ·obtain⟨rfl,rfl⟩:=hx
  exact a2G (P:=prog) (fn:=Tryz.f93) (psR z i::h) Vl Sb ⟨by rintro rfl;simp at c9,rfl,rfl⟩
 exact hr10.elim;refine ZZ [0,5] ?_;refine WL.val (v':=.int .i64 ((i+1:Nat):Int)) (congrArg (Value.int .i64) (by omega)) ?_;refine kA3 ?_;refine WL.nil (toX (.inr rfl) (a6p (h':=psR z (i+1)::h) (.inr rfl) rfl  Vl Sb ?_));exact⟨qB (by omega),rfl⟩
theorem b2C{m:View}(hg:Glob m){z:Pz}(hz:Pok m z)(i:Nat)(d:Int)(u:Tok)(a1:Oa)(c1:Nat)(h:Lr)(hi:i<=z.R.length)(hu:Rd m h a1 1 c1 4 (fl B1 [u])) :
 CX prog 94 [ptV z.bp,.int .i64 d,.slice a1 1 c1] (psR z i::h) m
 (λ_ _ h'=>i<z.R.length/\(∀(β:Type)(f:Nat->PE β),a1m z.R d u.kind u.text i f=f (i+1))/\h'=psR z (i+1)::h) (λv h'=>∃e,(∀(β:Type)(f:Nat->PE β),a1m z.R d u.kind u.text i f=.error (e,i))/\v=wrV e/\h'=psR z i::h):=by
 have hR:=hz.ok.1;have hq:∀(β:Type)(f:Nat->PE β),a1m z.R d u.kind u.text i f=a1k z.R d i λts=>M1 u.kind u.text ts i λr=>D4 r i f:=λ_ _=>rfl
 refine xB [0,2,6] func94 λ_=>?_;refine kA2 ?_;refine pD (psR z i) ?_;refine A1 Ef (E2 Et Et) (a4z hg hz i _ _ (by omega)) Lb (λv hv hx=>?_) λv9 h9 hr9=>?_
 ·obtain⟨e,j,hx1,rfl,rfl⟩:=hx
  obtain rfl:i=j:=by
   unfold V3 at hx1;split at hx1
   ·cases hx1;rfl
   ·split at hx1
    ·cases hx1;rfl
    ·split at hx1
     ·cases hx1;rfl
     ·cases hx1
  exact a2G (P:=prog) (fn:=Tryz.f94) (psR z i::h) Vl Sb ⟨e,λβ f=>(hq β f).trans (J3 hx1),rfl,rfl⟩
 obtain⟨r9,b9,a9,u9,hM9,rfl,hk9,rfl⟩:=hr9;have ho9:=a1y hz hM9;replace hq:∀(β:Type)(f:Nat->PE β),a1m z.R d u.kind u.text i f=M1 u.kind u.text r9 i λr=>D4 r i f:=λβ f=>(hq β f).trans (a3N hM9)
 refine ZZ [1,2] ?_;refine pD (lnR b9 a9 r9.length u9) ?_;refine A1 Ef (E2 Et Et) (Q4 b9 a9 u9 r9 u _ _ _ _ hk9 (F8 Me) (hu.mono Vl Sb)) Lb (λv hv hx=>?_) λv12 h12 hr12=>?_
 ·obtain⟨hx1,rfl,rfl⟩:=hx
  exact a2G (P:=prog) (fn:=Tryz.f94) (psR z i::h) Vl Sb ⟨_,λβ f=>(hq β f).trans (a3q hx1),rfl,rfl⟩
 obtain⟨hi12,a12,u12,hk12,rfl⟩:=hr12;replace hq:∀(β:Type)(f:Nat->PE β),a1m z.R d u.kind u.text i f=D4 r9.tail i f:=λβ f=>(hq β f).trans (a3s hi12)
 refine ZZ [0,2] ?_;refine pP (psR z i) (lnR b9 a12 r9.tail.length u12) ?_;refine A1 Ef (E2 Et Et) (M5 hz i b9 a12 u12 r9.tail _ hi) Lb (λv hv hx=>?_) λv15 h15 hr15=>?_
 ·obtain⟨hx1,rfl,rfl⟩:=hx
  exact a2G (P:=prog) (fn:=Tryz.f94) (psR z i::h) Vl Sb ⟨_,λβ f=>(hq β f).trans (N9 hx1),rfl,rfl⟩
 obtain⟨hz15,rfl⟩:=hr15;refine WL.nil (toX (.inr rfl) (a6p (h':=psR z (i+1)::h) (.inr rfl) rfl  Vl Sb ?_));exact⟨ho9.1.1,λβ f=>(hq β f).trans (N8 hz15),rfl⟩
abbrev p0(k:Int)(nm:B)(ch:Ex)(tg ex:Sli Ex)(rep:Rp):Pr:=.mk k nm ch tg ex rep none 0 [] none 0 [] A2 B4
theorem b2P{m:View}{z:Pz}(hz:Pok m z)(k:Int)(i:Nat)(b:Nat)(a:Oa)(c:Nat)(ts:Lt)(h:Lr)(hi:i<z.R.length) :
 CX prog 181 [ptV z.bp,.int .u8 k,ptV b] (psR z i::lnR b a ts.length c::h) m
 (λv _ h'=>ts=[]/\v=prV (p0 k [] A0 A2 A2 B0)/\h'=psR z (i+1)::h) (λv h'=>ts≠[]/\v=wrV 110/\h'=psR z i::h):=by
 refine xB [0,1,2,6] func181 λ_=>?_;refine xW λb6=>?_
 refine ZZ [0,2] ?_;refine pP (psR z i) (lnR b a ts.length c) ?_;refine A1 Ef (E2 Et Et) (M5 hz i b a c ts _ (by omega)) Lb (λv hv hx=>?_) λv9 h9 hr9=>?_
 ·obtain⟨hx1,rfl,rfl⟩:=hx
  exact a2G (P:=prog) (fn:=Tryz.f181) (psR z i::h) Vl Sb ⟨hx1,rfl,rfl⟩
 obtain⟨hz9,rfl⟩:=hr9;refine ZZ [0,3,0] ?_;refine xT (psR z (i+1)::h) (h1:=cA Q3) ?_;exact⟨hz9,rfl,rfl⟩
theorem a9X(m:View)(h:Lr){k:Int}(hk:0<=k/\k<=255):POk m h (p0 k [] A0 A2 A2 B0):=a1g hk (qi _) (B6 _ _) (B9 _ _) (B9 _ _) (P0 _ _) (T8 _ _) (a07 _ _) (P5 _ _) (K6 _ _)
abbrev REC(m:View)(z:Pz)(n:Nat):Prop:=∀(i:Nat)(d:Int)(top:Bool)(h:Lr),i<=z.R.length->z.R.length<=i+n->(0<=d/\d<=34) ->
 PrX m z 25 [ptV z.bp,.int .i64 d,.bool top] i h h (A4 z.R n d top i) (OP m)
abbrev QrX{α:Type}(m:View)(z:Pz)(f:FuncId)(args:Lv)(i b:Nat)(a:Oa)(c:Nat)(ts:Lt)(h:Lr)(M:PE α)(O:α->Value->Lr->Prop):Prop:=PrX m z f args i (lnR b a ts.length c::h) h M O
theorem K5{α:Type}{p:α->Prop}{x:α}(h:p x):∀y∈[x],p y:=λ_ hy=>(qy.1 hy)▸h
theorem b8s{α:Type}{p:α->Prop}{x y:α}(h:p x)(h2:p y):∀u∈[x,y],p u:=λu hu=>by
 rcases qQ.1 hu with rfl|hu
 ·exact h
 ·exact(qy.1 hu)▸h2
abbrev exR(b:Nat)(t:Ex):Res:=.pt b (.cells (exE t).toArray 29 (0,0))
abbrev b5X(b:Nat)(p q:Pr):Res:=.pt b (.cells (prE p++prE q).toArray 46 (0,0))
theorem b6V{m:View}{h:Lr}{t:Ex}(b:Nat)(q:EOk m h t):LOk m (exR b t::h) ⟨some ⟨b,0,none⟩,1,[t]⟩:=
 ⟨Rd.ofPt rfl (by show 1<=_;decide) (qm _),K5 (q.mono (qo _ _))⟩
theorem c7D{m:View}{z:Pz}{n:Nat}(hrec:REC m z n)(i:Nat)(d:Int)(top:Bool)(h:Lr)(h1:i<=z.R.length)(h2:z.R.length<=i+n)(h3:0<=d/\d<=34) :
 CX prog 25 [ptV z.bp,.int .i64 d,.bool top] (psR z i::h) m (λv _ h'=>∃hp,h'=hp++h/\∃p j bl,A4 z.R n d top i=.ok (stP p,j)/\(i<j/\j<=z.R.length)/\v=prV p/\POk m bl p/\hp=psR z j::bl) (λv h'=>PrE z (A4 z.R n d top i) h v h'):=
 (hrec i d top h h1 h2 h3).mono (λ_ _ _ ⟨_,j,bl,hM,hj,⟨p,e1,e2,hO⟩,e3⟩=>⟨psR z j::bl,e3,p,j,bl,e2▸hM,hj,e1,hO,rfl⟩) λ_ _ q=>q
abbrev PrY{α:Type}(m:View)(z:Pz)(f:FuncId)(args:Lv)(i:Nat)(h:Lr)(M:PE α)(O:α->Value->Lr->Prop):Prop:=
 CX prog f args (psR z i::h) m (λv _ h'=>∃x j bl,M=.ok (x,j)/\(i<=j/\j<=z.R.length)/\O x v bl/\h'=psR z j::(bl++h)) (λv h'=>PrE z M h v h')
abbrev a0Q(g:Gu)(b:Nat)(p:Pr):Gu:=.mk g.k g.name g.cond g.ch g.tg g.vl g.time (some ⟨b,0,none⟩) 1 [p]
theorem b4L(g:Gu)(b:Nat)(p:Pr):stG (a0Q g b p)=a8V (stG g) (stP p):=by cases g;rfl
theorem b4h{m:View}{h:Lr}{g:Gu}{b:Nat}{p:Pr}(q:GOk m h g):GOk m (prR b p::h) (a0Q g b p):=
 have q:=q.mono (qo (prR b p) h)
 ⟨q.k,q.n,q.cond,q.ch,q.tg,q.vl,q.time,Rd.ofPt rfl (by show 1<=_;decide) (qm _)⟩
theorem J5(p:Pr):stP p=prM p.k p.name (B5 p.ch) (p.tg.l.map B5) (p.ex.l.map B5) (stR p.rep) (p.gl.map stG) (p.ll.map stP) p.pn.l (stS p.sp):=by cases p;rw[stP,a9b,a5u];rfl
theorem a7N{m:View}(hg:Glob m){z:Pz}(hz:Pok m z){n:Nat}(hrec:REC m z n)(q:FuncId)(row:Lt->E Gu)(least most:Nat)(d:Int)(i:Nat)(h:Lr)(hi:i<=z.R.length)(hf:z.R.length<=i+n+1)(hd:0<=d/\d<=33)
 (hrow:∀(b:Nat)(a:Oa)(c:Nat)(ts:Lt)(h hT:Lr),Tk2 m hT a c ts->hT.Sublist h->LnX m q [ptV b] b a c ts hT h (row ts) (OG m)) :
 PrY m z 115 [ptV z.bp,.int .i64 d,.agg #[.int .i64 least,.int .i64 most],.func (.func q) #[] #[]] i h (U6 z.R (A4 z.R n) row least most d i) (OGs m):=by
 have hR:=hz.ok.1;refine xB [0,1,3,6,8,9,10,11,28] func115 λ_=>?_;refine xX λb6=>?_
 refine Z1 ?_;refine WL.addNil 93 23 ?_;refine kA1 ?_;refine pD (psR z i) ?_;refine Z0 ?_
 refine lI [0,1,3,6] (λμ F' h'=>∃a9:Oa,∃c9:Nat,∃l:List Gu,∃bl:Lr,∃k:Nat,∃j:Nat,((l.length+i<=j/\j<=z.R.length/\z.R.length<=j+k)/\((∀g∈l,GOk m bl g)/\∀g∈l,∀x∈g.bl,POk m bl x)/\U6 z.R (A4 z.R n) row least most d i=X7 z.R (A4 z.R n) row least most d k (l.map stG) j)/\k=μ/\F'=[(9,.slice a9 l.length c9)]/\psR z j::.row (.slice a9 l.length c9) 93 23 l.length (fl guE l)::.pt b6 (.cells [Value.int .i64 least,.int .i64 most].toArray 172 (0,0))::(bl++h)=h') ((z.R.length-i)) [(9,.slice none ([]).length 0)] (psR z i::.row (.slice none ([]).length 0) 93 23 ([]).length (fl guE ([]))::.pt b6 (.cells [Value.int .i64 least,.int .i64 most].toArray 172 (0,0))::(([])++h)) ⟨none,0,[],[],z.R.length-i,i,⟨⟨by simp,hi,by omega⟩,⟨λ_ hx=>(qn hx).elim,λ_ hx=>(qn hx).elim⟩,rfl⟩,rfl,rfl,rfl⟩ ?_
 rintro _ _ _ ⟨a9,c9,l,bl,k,j,⟨⟨hl,hj,hk⟩,⟨hG,hS⟩,hJ⟩,rfl,rfl,rfl⟩;refine A9 rfl ?_;refine b0g ?_;refine kA2 ?_;refine A3 (a0m rfl rfl) (λhc=>⟨Ef,(E2 (Eg hc) (Eg hc)),a6E hz j d _ Me⟩) Lb ?_;refine zG (λhc=>N3 hc rfl rfl) ?_;refine y1 ?_ ?_<;>intro c28
 have hlm:(l.map stG).length=l.length:=qP _;have hc:(l.map stG).length<least\/((l.map stG).length<most/\H6 z.R d j=true):=by simp only[qv,qa,qw]at c28;rw[hlm];exact c28.imp (λq=>by omega) λq=>⟨by omega,q.2⟩
 have hq:=hJ.trans (b1z hk hc);refine ZZ [0,2] ?_;refine pD (psR z j) ?_;refine A1 Ef (E2 Et Et) (a4z hg hz j _ _ (by omega)) Lb (λv hv hx=>?_) λv31 h31 hr31=>?_
 ·obtain⟨e,j,hx1,rfl,rfl⟩:=hx;(first|rw[hx1]at hq|rw[J3 hx1]at hq);exact prP Tryz.f115 hq Sb
 obtain⟨r31,b31,a31,u31,hM31,rfl,hk31,rfl⟩:=hr31;have ho31:=a1y hz hM31;rw[a3N hM31]at hq;refine ZZ [1,2] ?_;refine pD (lnR b31 a31 r31.length u31) ?_;refine A1 (Ev.tmp rfl) (E1 (Ev.tmp rfl)) (hrow b31 a31 u31 r31 _ _ hk31 (F8 Me)) Lb (λv hv hx=>?_) λv34 h34 hr34=>?_
 ·obtain⟨e,hx1,rfl,rfl⟩:=hx;rw[hx1]at hq;exact prP Tryz.f115 hq Sb
 obtain⟨x34,r34,a34,u34,bl34,hM34,⟨g34,rfl,rfl,hO34⟩,hk34,rfl⟩:=hr34;refine mP ?_;rw[hM34,J0]at hq;refine xW λb11=>?_
 refine ZZ [1,2] ?_;refine pP (psR z j) (lnR b31 a34 r34.length u34) ?_;refine A1 Ef (E2 Et Et) (M5 hz j b31 a34 u34 r34 _ (by omega)) Lb (λv hv hx=>?_) λv37 h37 hr37=>?_
 ·obtain⟨hx1,rfl,rfl⟩:=hx;rw[N9 hx1]at hq;exact prP Tryz.f115 hq Sb
 obtain⟨hz37,rfl⟩:=hr37;rw[N8 hz37]at hq;refine ZZ [0,3] ?_;refine pD (psR z (j+1)) ?_;refine A1 Ef (E3 Et Et Ek) (hrec (j+1) _ _ _ (by omega) (by omega) (by omega)) Lb (λv hv hx=>?_) λv41 h41 hr41=>?_
 ·obtain⟨e,j,hx1,rfl,rfl⟩:=hx;(first|rw[hx1]at hq|rw[J3 hx1]at hq);exact prP Tryz.f115 hq Sb
 obtain⟨x41,j41,bl41,hM41,hj41,⟨p41,rfl,rfl,hO41⟩,rfl⟩:=hr41;refine mP ?_;rw[hM41,S0]at hq;refine xY U0 Eb λb42=>?_
 refine WL.perm (Mv.perm (bl:=[_])) ?_;refine ZZ [2,2] ?_;refine xY c1N Eb λb46=>?_;have hln:(l++[a0Q g34 b42 p41]).length=l.length+1:=qh;refine xD c1N (Ev.tmp rfl) (Ev.tmp rfl) (show l.length+1=(l++[a0Q g34 b42 p41]).length by simp) (D9 (enc:=guE) _ (a0Q g34 b42 p41)) λa47 c47=>?_
 refine kA1 ?_;rw[<-qj bl34 bl h,<-qj bl41];have s1:bl.Sublist (prR b42 p41::(bl41++(bl34++bl))):=(b1o bl41 bl34 bl).cons _;have s2:(prR b42 p41::bl34).Sublist (prR b42 p41::(bl41++(bl34++bl))):=(b1U bl41 bl34 bl).cons_cons _;have s3:bl41.Sublist (prR b42 p41::(bl41++(bl34++bl))):=(qg _ _).cons _;have hm2:(l++[a0Q g34 b42 p41]).map stG=l.map stG++[a8V (stG g34) (stP p41)]:=by rw[qZ,zj,b4L]
 exact WL.nil (lN ((k-1)) [(9,.slice a47 (l++[a0Q g34 b42 p41]).length c47)] (psR z j41::.row (.slice a47 (l++[a0Q g34 b42 p41]).length c47) 93 23 (l++[a0Q g34 b42 p41]).length (fl guE (l++[a0Q g34 b42 p41]))::.pt b6 (.cells [Value.int .i64 least,.int .i64 most].toArray 172 (0,0))::((prR b42 p41::(bl41++(bl34++bl)))++h)) ⟨a47,c47,l++[a0Q g34 b42 p41],prR b42 p41::(bl41++(bl34++bl)),k-1,j41,⟨⟨by omega,by omega,by omega⟩,⟨J1 (λy hy=>(hG y hy).mono s1) ((b4h hO34).mono s2),J1 (λy hy x hx=>(hS y hy x hx).mono s1) (λx hx=>(qy.1 (show x∈[p41] from hx))▸hO41.mono s3)⟩,hq.trans (by rw[hm2])⟩,rfl,rfl,rfl⟩);have hlm:(l.map stG).length=l.length:=qP _;have hc:¬((l.map stG).length<least\/((l.map stG).length<most/\H6 z.R d j=true)):=λq=>by
  rw[hlm]at q;have:(decide ((l.length:Int)<least)||(decide ((l.length:Int)<most)&&H6 z.R d j))=true:=by simp only[qv,qa,qw];exact q.imp (λq=>by omega) λq=>⟨by omega,q.2⟩
  rw[this]at c28;cases c28
 have hq:=hJ.trans (a8i hc);refine H4 (a:=a9) Me λp9 q9 r9=>?_;refine ZZ [0,2,0] ?_;refine xT (psR z j::.row (.slice a9 l.length c9) 93 23 l.length (fl guE l)::(bl++h)) ?_;exact⟨_,j,.row (.slice a9 l.length c9) 93 23 l.length (fl guE l)::bl,hq,⟨by omega,hj⟩,⟨a9,c9,l,rfl,rfl,Rd.inRow (qm _) r9 p9 q9,λg hg=>(hG g hg).mono (qo _ _),λg hg x hx=>(hS g hg x hx).mono (qo _ _)⟩,rfl⟩
theorem b59{m:View}(hg:Glob m){z:Pz}(hz:Pok m z){n:Nat}(hrec:REC m z n)(kd:Int)(hk0:0<=kd/\kd<=255)(d:Int)(i b:Nat)(a:Oa)(c:Nat)(ts:Lt)(h hT:Lr)(hk:Tk2 m hT a c ts)(hs:hT.Sublist h)(hi:i<z.R.length)(hf:z.R.length<=i+n+1)(hd:0<=d/\d<=32) :
 QrX m z 182 [ptV z.bp,.int .u8 kd,.int .i64 d,ptV b] i b a c ts h (a2Q z.R (A4 z.R n) kd d ts i) (OP m):=by
 have hR:=hz.ok.1;have hq:a2Q z.R (A4 z.R n) kd d ts i=F2 (a8A ts) i λr ts=>D4 ts i λi=>if r.name≠[]then J8 (A4 z.R n (d+1) false i) λx i=>.ok (prM kd [] A0 [] [] r [] [x] [] B4,i)
  else J8 (a0i z.R (A4 z.R n) (d+1) (z.R.length-i) [] i) λl i=>.ok (prM kd [] A0 [] [] r [] l [] B4,i):=rfl
 refine xB [0,1,2,3,8,9,20,31] func182 λ_=>?_;refine xW λb8=>?_
 refine ZZ [0,2] ?_;refine pD (lnR b a ts.length c) ?_;refine A1 Ef (E1 Et) (c2H hg b a c ts _ _ hk (hs.trans Sb)) Lb (λv hv hx=>?_) λv12 h12 hr12=>?_
 ·obtain⟨e,hx1,rfl,rfl⟩:=hx;rw[hx1]at hq;exact prP Tryz.f182 hq Sb
 obtain⟨x12,r12,a12,u12,bl12,hM12,⟨p12,rfl,rfl,hn12,hu12,hv12⟩,hk12,rfl⟩:=hr12;refine mP ?_;rw[hM12,J0]at hq;refine kA1 ?_;refine xW λb9=>?_
 refine ZZ [1,2] ?_;refine pP (psR z i) (lnR b a12 r12.length u12) ?_;refine A1 Ef (E2 Et Et) (M5 hz i b a12 u12 r12 _ (by omega)) Lb (λv hv hx=>?_) λv16 h16 hr16=>?_
 ·obtain⟨hx1,rfl,rfl⟩:=hx;rw[N9 hx1]at hq;exact prP Tryz.f182 hq Sb
 obtain⟨hz16,rfl⟩:=hr16;rw[N8 hz16]at hq;refine ZZ [0,3] ?_;refine xG (P2 Et Ek) ?_;refine y0 ?_ ?_<;>intro c20
 have c20:p12.name≠[]:=by simpa using c20
 rw[if_pos (show(stR p12).name≠[] from c20)]at hq;refine kA3 ?_;refine pD (psR z (i+1)) ?_;refine A1 Ef (E3 Et Et Ek) (hrec (i+1) _ _ _ (by omega) (by omega) (by omega)) Lb (λv hv hx=>?_) λv24 h24 hr24=>?_
 ·obtain⟨e,j,hx1,rfl,rfl⟩:=hx;(first|rw[hx1]at hq|rw[J3 hx1]at hq);exact prP Tryz.f182 hq Sb
 obtain⟨x24,j24,bl24,hM24,hj24,⟨p24,rfl,rfl,hO24⟩,rfl⟩:=hr24;refine mP ?_;rw[hM24,S0]at hq;refine xY U0 Eb λb25=>?_
 refine WL.perm (Mv.perm (bl:=[_])) ?_;refine ZZ [2,2,0] ?_;refine xT (psR z j24::(prR b25 p24::(bl24++(bl12++h)))) (h1:=cA Q3) ?_;exact⟨_,_,prR b25 p24::(bl24++bl12),hq,⟨by omega,hj24.2⟩,⟨.mk kd [] A0 A2 A2 p12 none 0 [] (some ⟨b25,0,none⟩) 1 [p24] A2 B4,rfl,J5 _,a1g hk0 (qi _) (B6 _ _) (B9 _ _) (B9 _ _) (Rs.mono (h:=bl12) ⟨hn12,hu12,hv12⟩ ((qc _ _).cons _)) (T8 _ _) ⟨Rd.ofPt rfl (by show 1<=_;decide) (qm _),K5 (hO24.mono ((qg _ _).cons _))⟩ (P5 _ _) (K6 _ _)⟩,by rw[qN,qj]⟩;have c20:p12.name=[]:=by simpa using c20
 rw[if_neg (show ¬(stR p12).name≠[] from λq=>q c20)]at hq;refine WC.addNil 46 42 ?_;refine WC.take (r:=psR z (i+1)) De ?_;refine Z0 ?_
 refine lI [0,2,8,9] (λμ F' h'=>∃a9:Oa,∃c9:Nat,∃l:List Pr,∃bl:Lr,∃k:Nat,∃j:Nat,((l.length+i+1<=j/\j<=z.R.length/\z.R.length<=j+k)/\(∀x∈l,POk m bl x)/\a2Q z.R (A4 z.R n) kd d ts i=J8 (a0i z.R (A4 z.R n) (d+1) k (l.map stP) j) λl i=>.ok (prM kd [] A0 [] [] (stR p12) [] l [] B4,i))/\k=μ/\F'=[]/\psR z j::.row (.slice a9 l.length c9) 46 42 l.length (fl prE l)::prR b9 (.mk kd [] A0 A2 A2 p12 none 0 [] a9 c9 l A2 B4)::prR b8 (p0 0 [] A0 A2 A2 B0)::(bl++(bl12++h))=h') ((z.R.length-(i+1))) [] (psR z (i+1)::.row (.slice none ([]).length 0) 46 42 ([]).length (fl prE ([]))::prR b9 (.mk kd [] A0 A2 A2 p12 none 0 [] none 0 ([]) A2 B4)::prR b8 (p0 0 [] A0 A2 A2 B0)::(([])++(bl12++h))) ⟨none,0,[],[],z.R.length-(i+1),i+1,⟨⟨by simp,by omega,by omega⟩,λ_ hx=>(qn hx).elim,hq⟩,rfl,rfl,rfl⟩ ?_;rintro _ _ _ ⟨a9,c9,l,bl,k,j,⟨⟨hl,hj,hk⟩,hS,hJ⟩,rfl,rfl,rfl⟩
 refine A9 rfl ?_;refine kA3 ?_;refine xf (E2 Et Et) (a6E hz j (d+1) _ Me) ?_;refine y0 ?_ ?_<;>intro c31
 rw[b4Z hk c31]at hJ;refine WC.take (r:=psR z j) De ?_;refine Z0 ?_;refine F4 [5,6] (.op 0 (.op 1 (.op 2 (.op 3 (.op 4 (.op 5 (.op 6 .nil))))))) [7,8,9] _ [_] C9 (λ_ _ _ _ _ h=>h) [] (by kernel_rfl) ?_;refine kA4 ?_;refine yG rfl (K3 Et Ek (by omega)) ?_;refine R7 rfl rfl Ef (E3 Et Et Ek) (λfr=>c7D hrec j (d+1) false _ (by omega) (by omega) (by omega)) Lb (λfr v hv hx=>?_) λv37 h37 hr37=>?_
 ·obtain⟨e,j2,hx1,rfl,rfl⟩:=hx
  rw[hx1]at hJ;exact prP Tryz.f182 hJ ((a3e Sb fr).cons_cons _)
 obtain⟨p37,j37,bl37,hM37,hj37,rfl,hO37,rfl⟩:=hr37;refine sB rfl U0 λb38=>?_;refine a0V (H:=prR b38 p37::psR z j37::.row (.slice a9 l.length c9) 46 42 l.length (fl prE l)::prR b9 (.mk kd [] A0 A2 A2 p12 none 0 [] a9 c9 l A2 B4)::prR b8 (p0 0 [] A0 A2 A2 B0)::(bl37++(bl++(bl12++h)))) rfl (((a0o bl37 [_,_,_] (bl++(bl12++h))).cons _).cons _) ?_;have hln:(l++[p37]).length=l.length+1:=qh;refine xD U0 (Ev.tmp rfl) (Ev.tmp rfl) (show l.length+1=(l++[p37]).length by simp) (D9 (enc:=prE) _ (p37)) λa39 c39=>?_
 refine kA2 ?_;rw[hM37,S0]at hJ;rw[<-qj bl37 bl];have hm2:(l++[p37]).map stP=l.map stP++[stP p37]:=by rw[qZ,zj]
 exact WL.nil (lN ((k-1)) [] (psR z j37::.row (.slice a39 (l++[p37]).length c39) 46 42 (l++[p37]).length (fl prE (l++[p37]))::prR b9 (.mk kd [] A0 A2 A2 p12 none 0 [] a39 c39 (l++[p37]) A2 B4)::prR b8 (p0 0 [] A0 A2 A2 B0)::((bl37++bl)++(bl12++h))) ⟨a39,c39,l++[p37],bl37++bl,k-1,j37,⟨⟨by omega,by omega,by omega⟩,J1 (λy hy=>(hS y hy).mono (qc _ _)) (hO37.mono (qg _ _)),hJ.trans (by rw[hm2])⟩,rfl,rfl,rfl⟩);rw[b0d c31,S0]at hJ;refine H4 (a:=a9) Me λp9 q9 r9=>?_
 refine ZZ [0,2,0] ?_;refine xT (psR z j::(.row (.slice a9 l.length c9) 46 42 l.length (fl prE l)::(bl++(bl12++h)))) (h1:=cA Q3) ?_;exact⟨_,_,.row (.slice a9 l.length c9) 46 42 l.length (fl prE l)::(bl++bl12),hJ,⟨by omega,hj⟩,⟨.mk kd [] A0 A2 A2 p12 none 0 [] a9 c9 l A2 B4,rfl,J5 _,a1g hk0 (qi _) (B6 _ _) (B9 _ _) (B9 _ _) (Rs.mono (h:=bl12) ⟨hn12,hu12,hv12⟩ ((qc _ _).cons _)) (T8 _ _) ⟨Rd.inRow (qm _) r9 p9 q9,λx hx=>(hS x hx).mono ((qg _ _).cons _)⟩ (P5 _ _) (K6 _ _)⟩,by rw[qN,qj]⟩
theorem a7M{m:View}(hg:Glob m){z:Pz}(hz:Pok m z){n:Nat}(hrec:REC m z n)(kd:Int)(hk0:0<=kd/\kd<=255)(q:FuncId)(row:Lt->E Gu)(hrow:∀(b:Nat)(a:Oa)(c:Nat)(ts:Lt)(h hT:Lr),Tk2 m hT a c ts->hT.Sublist h->LnX m q [ptV b] b a c ts hT h (row ts) (OG m))(d:Int)(i b:Nat)(a:Oa)(c:Nat)(ts:Lt)(h hT:Lr)(hk:Tk2 m hT a c ts)(hs:hT.Sublist h)(hi:i<z.R.length)(hf:z.R.length<=i+n+1)(hd:0<=d/\d<=32) :
 QrX m z 183 [ptV z.bp,.int .u8 kd,.int .i64 d,ptV b,.func (.func q) #[] #[]] i b a c ts h (a0B z.R (A4 z.R n) kd row d ts i) (OP m):=by
 have hR:=hz.ok.1;have hq:a0B z.R (A4 z.R n) kd row d ts i=F2 (a8A ts) i λr ts=>D4 ts i λi=>J8 (U6 z.R (A4 z.R n) row (if r.name≠[]then 1 else 0) (if r.name≠[]then 1 else 16) (d+1) i) λl i=>.ok (prM kd [] A0 [] [] r l [] [] B4,i):=rfl
 refine xB [0,1,2,3,4,10,11,12] func183 λ_=>?_;refine xW λb10=>?_
 refine ZZ [0,2] ?_;refine pD (lnR b a ts.length c) ?_;refine A1 Ef (E1 Et) (c2H hg b a c ts _ _ hk (hs.trans Sb)) Lb (λv hv hx=>?_) λv15 h15 hr15=>?_
 ·obtain⟨e,hx1,rfl,rfl⟩:=hx;rw[hx1]at hq;exact prP Tryz.f183 hq Sb
 obtain⟨x15,r15,a15,u15,bl15,hM15,⟨p15,rfl,rfl,hn15,hu15,hv15⟩,hk15,rfl⟩:=hr15;refine mP ?_;rw[hM15,J0]at hq;refine kA1 ?_;refine xW λb11=>?_
 refine ZZ [1,2] ?_;refine pP (psR z i) (lnR b a15 r15.length u15) ?_;refine A1 Ef (E2 Et Et) (M5 hz i b a15 u15 r15 _ (by omega)) Lb (λv hv hx=>?_) λv19 h19 hr19=>?_
 ·obtain⟨hx1,rfl,rfl⟩:=hx;rw[N9 hx1]at hq;exact prP Tryz.f183 hq Sb
 obtain⟨hz19,rfl⟩:=hr19;rw[N8 hz19]at hq;refine ZZ [0,1] ?_;refine xW λb12=>?_
 refine kA1 ?_;refine pD (psR z (i+1)) ?_;refine ZZ [0,3] ?_;refine xG (P2 Et Ek) ?_;refine kP0 [0,2,4,10,11,12,24] ?_;refine D6 KKh [0,2,4,10,11,12] rfl (λF' h'=>∃lo:Nat,∃hi2:Nat,(lo=(if(stR p15).name≠[]then 1 else 0)/\hi2=(if(stR p15).name≠[]then 1 else 16))/\F'=[]/\psR z (i+1)::.pt b12 (.cells [Value.int .i64 lo,Value.int .i64 hi2].toArray 172 (0,0))::prR b11 (.mk kd [] A0 A2 A2 p15 none 0 [] none 0 [] A2 B4)::prR b10 (p0 0 [] A0 A2 A2 B0)::(bl15++h)=h') ?_ ?_;refine jE ?_;refine wc ?_ ?_<;>intro c24
 have c24:(stR p15).name≠[]:=show p15.name≠[] by simpa using c24
 refine j0 ?_;refine xG (I8 (vs:=a9f) W5 rfl rfl Ev.global rfl (λj v hj=>by rw[qI];exact hg.sOne j v hj)) ?_;refine kA1 ?_;exact WL.nil (mN [] (psR z (i+1)::.pt b12 (.cells [Value.int .i64 1,Value.int .i64 1].toArray 172 (0,0))::prR b11 (.mk kd [] A0 A2 A2 p15 none 0 [] none 0 [] A2 B4)::prR b10 (p0 0 [] A0 A2 A2 B0)::(bl15++h)) ⟨1,1,⟨(if_pos c24).symm,(if_pos c24).symm⟩,rfl,rfl⟩);have c24:¬(stR p15).name≠[]:=show ¬p15.name≠[] by simpa using c24
 exact WC.skip (mN [] (psR z (i+1)::.pt b12 (.cells [Value.int .i64 0,Value.int .i64 16].toArray 172 (0,0))::prR b11 (.mk kd [] A0 A2 A2 p15 none 0 [] none 0 [] A2 B4)::prR b10 (p0 0 [] A0 A2 A2 B0)::(bl15++h)) ⟨0,16,⟨(if_neg c24).symm,(if_neg c24).symm⟩,rfl,rfl⟩);rintro _ _ ⟨lo,hi2,⟨hlo,hhi⟩,rfl,rfl⟩;refine A9 rfl ?_;rw[<-hlo,<-hhi]at hq;refine kA5 ?_;refine pD (psR z (i+1)) ?_;refine A1 Ef (E4 Et Et Et Et) (a7N hg hz hrec q row lo hi2 _ (i+1) _ (by omega) (by omega) (by omega) hrow) Lb (λv hv hx=>?_) λv31 h31 hr31=>?_
 ·obtain⟨e,j,hx1,rfl,rfl⟩:=hx;(first|rw[hx1]at hq|rw[J3 hx1]at hq);exact prP Tryz.f183 hq Sb
 obtain⟨x31,j31,bl31,hM31,hj31,⟨q31,w31,l31,rfl,rfl,hG31⟩,rfl⟩:=hr31;refine mP ?_;rw[hM31,S0]at hq;refine ZZ [2,2,0] ?_;refine xT (psR z j31::(bl31++(bl15++h))) (h1:=cA Q3) ?_;exact⟨_,_,bl31++bl15,hq,⟨by omega,hj31.2⟩,⟨.mk kd [] A0 A2 A2 p15 q31 w31 l31 none 0 [] A2 B4,rfl,J5 _,a1g hk0 (qi _) (B6 _ _) (B9 _ _) (B9 _ _) (Rs.mono (h:=bl15) ⟨hn15,hu15,hv15⟩ (qc _ _)) (hG31.mono (qg _ _)) (a07 _ _) (P5 _ _) (K6 _ _)⟩,by rw[qj]⟩
theorem c5w{m:View}{z:Pz}(hz:Pok m z)(d:Int)(i b:Nat)(a:Oa)(c:Nat)(ts:Lt)(h:Lr)(hi:i<z.R.length) :
 QrX m z 103 [ptV z.bp,.int .i64 d,ptV b] i b a c ts h (b4n 1 ts i) (OP m):=by
 have hq:b4n 1 ts i=D4 ts i λi=>.ok (prM 1 [] A0 [] [] B0 [] [] [] B4,i):=rfl
 refine xB [0,2,6] func103 λ_=>?_;refine xW λb6=>?_
 refine ZZ [0,2] ?_;refine pP (psR z i) (lnR b a ts.length c) ?_;refine A1 Ef (E3 Et Ek Et) (b2P hz 1 i b a c ts _ hi) Lb (λv hv hx=>?_) λv9 h9 hr9=>?_
 ·obtain⟨hx1,rfl,rfl⟩:=hx;rw[N9 hx1]at hq;exact prP Tryz.f103 hq Sb
 obtain⟨hz9,rfl,rfl⟩:=hr9;rw[N8 hz9]at hq;refine Z1 ?_;refine xT (psR z (i+1)::h) (h1:=cA Q3) ?_;exact⟨_,_,[],hq,⟨by omega,by omega⟩,⟨p0 1 [] A0 A2 A2 B0,rfl,J5 _,a9X _ _ (by decide)⟩,rfl⟩
theorem c4R{m:View}{z:Pz}(hz:Pok m z)(d:Int)(i b:Nat)(a:Oa)(c:Nat)(ts:Lt)(h:Lr)(hi:i<z.R.length) :
 QrX m z 104 [ptV z.bp,.int .i64 d,ptV b] i b a c ts h (b4n 2 ts i) (OP m):=by
 have hq:b4n 2 ts i=D4 ts i λi=>.ok (prM 2 [] A0 [] [] B0 [] [] [] B4,i):=rfl
 refine xB [0,2,6] func104 λ_=>?_;refine xW λb6=>?_
 refine ZZ [0,2] ?_;refine pP (psR z i) (lnR b a ts.length c) ?_;refine A1 Ef (E3 Et Ek Et) (b2P hz 2 i b a c ts _ hi) Lb (λv hv hx=>?_) λv9 h9 hr9=>?_
 ·obtain⟨hx1,rfl,rfl⟩:=hx;rw[N9 hx1]at hq;exact prP Tryz.f104 hq Sb
 obtain⟨hz9,rfl,rfl⟩:=hr9;rw[N8 hz9]at hq;refine Z1 ?_;refine xT (psR z (i+1)::h) (h1:=cA Q3) ?_;exact⟨_,_,[],hq,⟨by omega,by omega⟩,⟨p0 2 [] A0 A2 A2 B0,rfl,J5 _,a9X _ _ (by decide)⟩,rfl⟩
theorem c5Q{m:View}(hg:Glob m){z:Pz}(hz:Pok m z){n:Nat}(hrec:REC m z n)(d:Int)(i b:Nat)(a:Oa)(c:Nat)(ts:Lt)(h hT:Lr)(hk:Tk2 m hT a c ts)(hs:hT.Sublist h)(hi:i<z.R.length)(hf:z.R.length<=i+n+1)(hd:0<=d/\d<=32) :
 QrX m z 105 [ptV z.bp,.int .i64 d,ptV b] i b a c ts h (a2Q z.R (A4 z.R n) 8 d ts i) (OP m):=by
 refine xB [0,1,2,6] func105 λ_=>?_;refine xW λb6=>?_
 refine ZZ [0,3] ?_;refine pP (psR z i) (lnR b a ts.length c) ?_;refine A1 Ef (E4 Et Ek Et Et) (b59 hg hz hrec 8 (by decide) d i b a c ts _ _ hk (hs.trans Sb) hi hf hd) Lb (λv hv hx=>?_) λv10 h10 hr10=>?_
 ·obtain⟨e,j,hx1,rfl,rfl⟩:=hx
  exact prP Tryz.f105 hx1 Sb
 obtain⟨x10,j10,bl10,hM10,hj10,⟨p10,rfl,rfl,hO10⟩,rfl⟩:=hr10;refine mP ?_;have hq:=hM10;refine Z1 ?_;refine xT (psR z j10::(bl10++h)) (h1:=cA Q3) ?_;exact⟨_,_,bl10,hq,hj10,⟨p10,rfl,rfl,hO10⟩,rfl⟩
theorem c4X{m:View}(hg:Glob m){z:Pz}(hz:Pok m z){n:Nat}(hrec:REC m z n)(d:Int)(i b:Nat)(a:Oa)(c:Nat)(ts:Lt)(h hT:Lr)(hk:Tk2 m hT a c ts)(hs:hT.Sublist h)(hi:i<z.R.length)(hf:z.R.length<=i+n+1)(hd:0<=d/\d<=32) :
 QrX m z 106 [ptV z.bp,.int .i64 d,ptV b] i b a c ts h (a2Q z.R (A4 z.R n) 9 d ts i) (OP m):=by
 refine xB [0,1,2,6] func106 λ_=>?_;refine xW λb6=>?_
 refine ZZ [0,3] ?_;refine pP (psR z i) (lnR b a ts.length c) ?_;refine A1 Ef (E4 Et Ek Et Et) (b59 hg hz hrec 9 (by decide) d i b a c ts _ _ hk (hs.trans Sb) hi hf hd) Lb (λv hv hx=>?_) λv10 h10 hr10=>?_
 ·obtain⟨e,j,hx1,rfl,rfl⟩:=hx
  exact prP Tryz.f106 hx1 Sb
 obtain⟨x10,j10,bl10,hM10,hj10,⟨p10,rfl,rfl,hO10⟩,rfl⟩:=hr10;refine mP ?_;have hq:=hM10;refine Z1 ?_;refine xT (psR z j10::(bl10++h)) (h1:=cA Q3) ?_;exact⟨_,_,bl10,hq,hj10,⟨p10,rfl,rfl,hO10⟩,rfl⟩
theorem c4A{m:View}(hg:Glob m){z:Pz}(hz:Pok m z){n:Nat}(hrec:REC m z n)(d:Int)(i b:Nat)(a:Oa)(c:Nat)(ts:Lt)(h hT:Lr)(hk:Tk2 m hT a c ts)(hs:hT.Sublist h)(hi:i<z.R.length)(hf:z.R.length<=i+n+1)(hd:0<=d/\d<=32) :
 QrX m z 108 [ptV z.bp,.int .i64 d,ptV b] i b a c ts h (a0B z.R (A4 z.R n) 12 a3D d ts i) (OP m):=by
 refine xB [0,1,2,6] func108 λ_=>?_;refine xW λb6=>?_
 refine ZZ [0,3] ?_;refine pP (psR z i) (lnR b a ts.length c) ?_;refine A1 Ef (Evs.cons Et (Evs.cons Ek (Evs.cons Et (Evs.cons Et (Evs.cons Ef Evs.nil))))) (a7M hg hz hrec 12 (by decide) _ a3D (λb a c ts h hT=>c2R hg b a c ts h hT) d i b a c ts _ _ hk (hs.trans Sb) hi hf hd) Lb (λv hv hx=>?_) λv10 h10 hr10=>?_
 ·obtain⟨e,j,hx1,rfl,rfl⟩:=hx
  exact prP Tryz.f108 hx1 Sb
 obtain⟨x10,j10,bl10,hM10,hj10,⟨p10,rfl,rfl,hO10⟩,rfl⟩:=hr10;refine mP ?_;have hq:=hM10;refine Z1 ?_;refine xT (psR z j10::(bl10++h)) (h1:=cA Q3) ?_;exact⟨_,_,bl10,hq,hj10,⟨p10,rfl,rfl,hO10⟩,rfl⟩
theorem b5R{m:View}(hg:Glob m){z:Pz}(hz:Pok m z){n:Nat}(hrec:REC m z n)(d:Int)(i b:Nat)(a:Oa)(c:Nat)(ts:Lt)(h hT:Lr)(hk:Tk2 m hT a c ts)(hs:hT.Sublist h)(hi:i<z.R.length)(hf:z.R.length<=i+n+1)(hd:0<=d/\d<=32) :
 QrX m z 109 [ptV z.bp,.int .i64 d,ptV b] i b a c ts h (a0B z.R (A4 z.R n) 14 ifM d ts i) (OP m):=by
 refine xB [0,1,2,6] func109 λ_=>?_;refine xW λb6=>?_
 refine ZZ [0,3] ?_;refine pP (psR z i) (lnR b a ts.length c) ?_;refine A1 Ef (Evs.cons Et (Evs.cons Ek (Evs.cons Et (Evs.cons Et (Evs.cons Ef Evs.nil))))) (a7M hg hz hrec 14 (by decide) _ ifM (λb a c ts h hT=>c9p hg b a c ts h hT) d i b a c ts _ _ hk (hs.trans Sb) hi hf hd) Lb (λv hv hx=>?_) λv10 h10 hr10=>?_
 ·obtain⟨e,j,hx1,rfl,rfl⟩:=hx
  exact prP Tryz.f109 hx1 Sb
 obtain⟨x10,j10,bl10,hM10,hj10,⟨p10,rfl,rfl,hO10⟩,rfl⟩:=hr10;refine mP ?_;have hq:=hM10;refine Z1 ?_;refine xT (psR z j10::(bl10++h)) (h1:=cA Q3) ?_;exact⟨_,_,bl10,hq,hj10,⟨p10,rfl,rfl,hO10⟩,rfl⟩
theorem c8o{m:View}(hg:Glob m){z:Pz}(hz:Pok m z){n:Nat}(hrec:REC m z n)(d:Int)(i b:Nat)(a:Oa)(c:Nat)(ts:Lt)(h hT:Lr)(hk:Tk2 m hT a c ts)(hs:hT.Sublist h)(hi:i<z.R.length)(hf:z.R.length<=i+n+1)(hd:0<=d/\d<=32) :
 QrX m z 110 [ptV z.bp,.int .i64 d,ptV b] i b a c ts h (c4I z.R (A4 z.R n) d ts i) (OP m):=by
 have hR:=hz.ok.1;have hq:c4I z.R (A4 z.R n) d ts i=F2 (G6 ts) i λe r=>D4 r i λi=>J8 (U6 z.R (A4 z.R n) a9u 0 16 (d+1) i) λl i=>.ok (prM 15 [] A0 [] [e] B0 l [] [] B4,i):=rfl
 refine xB [0,1,2,6,7] func110 λ_=>?_;refine xW λb6=>?_
 refine ZZ [0,1] ?_;refine pD (lnR b a ts.length c) ?_;refine A1 Ef (E1 Et) (X6 hg b a c ts _ _ hk (hs.trans Sb)) Lb (λv hv hx=>?_) λv9 h9 hr9=>?_
 ·obtain⟨e,hx1,rfl,rfl⟩:=hx;rw[hx1]at hq;exact prP Tryz.f110 hq Sb
 obtain⟨x9,r9,a9,u9,bl9,hM9,⟨t9,rfl,rfl,hO9⟩,hk9,rfl⟩:=hr9;refine mP ?_;rw[hM9,J0]at hq;refine xY U9 Eb λb10=>?_
 refine WL.perm (Mv.perm (bl:=[_])) ?_;refine kA1 ?_;refine xW λb7=>?_;refine ZZ [1,2] ?_;refine pP (psR z i) (lnR b a9 r9.length u9) ?_;refine A1 Ef (E2 Et Et) (M5 hz i b a9 u9 r9 _ (by omega)) Lb (λv hv hx=>?_) λv14 h14 hr14=>?_
 ·obtain⟨hx1,rfl,rfl⟩:=hx;rw[N9 hx1]at hq;exact prP Tryz.f110 hq Sb
 obtain⟨hz14,rfl⟩:=hr14;rw[N8 hz14]at hq;refine ZZ [0,4] ?_;refine pD (psR z (i+1)) ?_;refine A1 Ef (E4 Et Et Et Ef) (a7N hg hz hrec _ a9u 0 16 _ (i+1) _ (by omega) (by omega) (by omega) (λb a c ts h hT=>c7s hg b a c ts h hT)) Lb (λv hv hx=>?_) λv19 h19 hr19=>?_
 ·obtain⟨e,j,hx1,rfl,rfl⟩:=hx;(first|rw[hx1]at hq|rw[J3 hx1]at hq);exact prP Tryz.f110 hq Sb
 obtain⟨x19,j19,bl19,hM19,hj19,⟨q19,w19,l19,rfl,rfl,hG19⟩,rfl⟩:=hr19;refine mP ?_;rw[hM19,S0]at hq;refine ZZ [2,2,0] ?_;refine xT (psR z j19::(exR b10 t9::(bl19++(bl9++h)))) (h1:=cA Q3) ?_;exact⟨_,_,exR b10 t9::(bl19++bl9),hq,⟨by omega,hj19.2⟩,⟨.mk 15 [] A0 A2 ⟨some ⟨b10,0,none⟩,1,[t9]⟩ B0 q19 w19 l19 none 0 [] A2 B4,rfl,J5 _,a1g (by decide) (qi _) (B6 _ _) (B9 _ _) ((b6V b10 hO9).mono ((qc _ _).cons_cons _)) (P0 _ _) (hG19.mono ((qg _ _).cons _)) (a07 _ _) (P5 _ _) (K6 _ _)⟩,by rw[qN,qj]⟩
theorem c5C{m:View}(hg:Glob m){z:Pz}(hz:Pok m z){n:Nat}(hrec:REC m z n)(d:Int)(i b:Nat)(a:Oa)(c:Nat)(ts:Lt)(h hT:Lr)(hk:Tk2 m hT a c ts)(hs:hT.Sublist h)(hi:i<z.R.length)(hf:z.R.length<=i+n+1)(hd:0<=d/\d<=32) :
 QrX m z 111 [ptV z.bp,.int .i64 d,ptV b] i b a c ts h (b7n (A4 z.R n) d ts i) (OP m):=by
 have hR:=hz.ok.1;have hq:b7n (A4 z.R n) d ts i=F2 (G6 ts) i λe r=>D4 r i λi=>J8 (A4 z.R n (d+1) false i) λx i=>.ok (prM 16 [] A0 [] [e] B0 [] [x] [] B4,i):=rfl
 refine xB [0,1,2,6,7] func111 λ_=>?_;refine xW λb6=>?_
 refine ZZ [0,1] ?_;refine pD (lnR b a ts.length c) ?_;refine A1 Ef (E1 Et) (X6 hg b a c ts _ _ hk (hs.trans Sb)) Lb (λv hv hx=>?_) λv9 h9 hr9=>?_
 ·obtain⟨e,hx1,rfl,rfl⟩:=hx;rw[hx1]at hq;exact prP Tryz.f111 hq Sb
 obtain⟨x9,r9,a9,u9,bl9,hM9,⟨t9,rfl,rfl,hO9⟩,hk9,rfl⟩:=hr9;refine mP ?_;rw[hM9,J0]at hq;refine xY U9 Eb λb10=>?_
 refine WL.perm (Mv.perm (bl:=[_])) ?_;refine kA1 ?_;refine xW λb7=>?_;refine ZZ [1,2] ?_;refine pP (psR z i) (lnR b a9 r9.length u9) ?_;refine A1 Ef (E2 Et Et) (M5 hz i b a9 u9 r9 _ (by omega)) Lb (λv hv hx=>?_) λv14 h14 hr14=>?_
 ·obtain⟨hx1,rfl,rfl⟩:=hx;rw[N9 hx1]at hq;exact prP Tryz.f111 hq Sb
 obtain⟨hz14,rfl⟩:=hr14;rw[N8 hz14]at hq;refine ZZ [0,3] ?_;refine pD (psR z (i+1)) ?_;refine A1 Ef (E3 Et Et Ek) (hrec (i+1) _ _ _ (by omega) (by omega) (by omega)) Lb (λv hv hx=>?_) λv18 h18 hr18=>?_
 ·obtain⟨e,j,hx1,rfl,rfl⟩:=hx;(first|rw[hx1]at hq|rw[J3 hx1]at hq);exact prP Tryz.f111 hq Sb
 obtain⟨x18,j18,bl18,hM18,hj18,⟨p18,rfl,rfl,hO18⟩,rfl⟩:=hr18;refine mP ?_;rw[hM18,S0]at hq;refine xY U0 Eb λb19=>?_
 refine WL.perm (Mv.perm (bl:=[_])) ?_;refine ZZ [2,2,0] ?_;refine xT (psR z j18::(exR b10 t9::prR b19 p18::(bl18++(bl9++h)))) (h1:=cA Q3) ?_;exact⟨_,_,exR b10 t9::prR b19 p18::(bl18++bl9),hq,⟨by omega,hj18.2⟩,⟨.mk 16 [] A0 A2 ⟨some ⟨b10,0,none⟩,1,[t9]⟩ B0 none 0 [] (some ⟨b19,0,none⟩) 1 [p18] A2 B4,rfl,J5 _,a1g (by decide) (qi _) (B6 _ _) (B9 _ _) ((b6V b10 hO9).mono (((qc _ _).cons _).cons_cons _)) (P0 _ _) (T8 _ _) ⟨Rd.ofPt rfl (by show 1<=_;decide) (qD _ (qm _)),K5 (hO18.mono (((qg _ _).cons _).cons _))⟩ (P5 _ _) (K6 _ _)⟩,by rw[qN,qN,qj]⟩
theorem ls2{m:View}{h:Lr}{p q:Pr}(b:Nat)(hp:POk m h p)(hq:POk m h q):Ls m (b5X b p q::h) (some ⟨b,0,none⟩) 2 [p,q]:=
 ⟨by
  have e:fl prE [p,q]=prE p++prE q:=by simp[fl]
  rw[e];exact Rd.ofPt (by rw[qh,a1E,a1E];rfl) (by show 2<=_;decide) (qm _),b8s (hp.mono (qo _ _)) (hq.mono (qo _ _))⟩
theorem c7U{m:View}(hg:Glob m){z:Pz}(hz:Pok m z){n:Nat}(hrec:REC m z n)(d:Int)(i b:Nat)(a:Oa)(c:Nat)(ts:Lt)(h hT:Lr)(hk:Tk2 m hT a c ts)(hs:hT.Sublist h)(hi:i<z.R.length)(hf:z.R.length<=i+n+1)(hd:0<=d/\d<=32) :
 QrX m z 107 [ptV z.bp,.int .i64 d,ptV b] i b a c ts h (c4J z.R (A4 z.R n) d ts i) (OP m):=by
 have hR:=hz.ok.1;have hq:c4J z.R (A4 z.R n) d ts i=if isM 2 [80,65,82] ts then D4 ts.tail i λi=>J8 (A4 z.R n (d+1) false i) λx i=>J8 (A4 z.R n (d+1) false i) λy i=>.ok (prM 10 [] A0 [] [] B0 [] [x,y] [] B4,i)
  else M1 2 [65,76,84] ts i λr=>a0B z.R (A4 z.R n) 13 a3D d r i:=rfl
 refine xB [0,1,2,6,7,10] func107 λ_=>?_;refine xW λb6=>?_
 refine ZZ [0,1] ?_;refine xf (E1 Ek) (L9 _ _ _) ?_;refine pD (lnR b a ts.length c) ?_;refine xg (E2 Et Et) (M9 b a c ts _ _ _ hk (hs.trans Sb)) ?_;rintro _ _ ⟨a10,u10,r10,rfl,he10,hk10,rfl⟩;refine y0 ?_ ?_<;>intro c10
 replace he10:=he10.trans (if_pos c10);subst r10;rw[if_pos c10]at hq;refine kA2 ?_;refine pP (psR z i) (lnR b a10 ts.tail.length u10) ?_;refine A1 Ef (E3 Et Ek Et) (b2P hz 10 i b a10 u10 ts.tail _ hi) Lb (λv hv hx=>?_) λv13 h13 hr13=>?_
 ·obtain⟨hx1,rfl,rfl⟩:=hx;rw[N9 hx1]at hq;exact prP Tryz.f107 hq Sb
 obtain⟨hz13,rfl,rfl⟩:=hr13;rw[N8 hz13]at hq;refine xW λb7=>?_
 refine ZZ [1,3] ?_;refine pD (psR z (i+1)) ?_;refine A1 Ef (E3 Et Et Ek) (hrec (i+1) _ _ _ (by omega) (by omega) (by omega)) Lb (λv hv hx=>?_) λv17 h17 hr17=>?_
 ·obtain⟨e,j,hx1,rfl,rfl⟩:=hx;(first|rw[hx1]at hq|rw[J3 hx1]at hq);exact prP Tryz.f107 hq Sb
 obtain⟨x17,j17,bl17,hM17,hj17,⟨p17,rfl,rfl,hO17⟩,rfl⟩:=hr17;refine mP ?_;rw[hM17,S0]at hq;refine kA3 ?_;refine pD (psR z j17) ?_;refine A1 Ef (E3 Et Et Ek) (hrec j17 _ _ _ (by omega) (by omega) (by omega)) Lb (λv hv hx=>?_) λv21 h21 hr21=>?_
 ·obtain⟨e,j,hx1,rfl,rfl⟩:=hx;(first|rw[hx1]at hq|rw[J3 hx1]at hq);exact prP Tryz.f107 hq Sb
 obtain⟨x21,j21,bl21,hM21,hj21,⟨p21,rfl,rfl,hO21⟩,rfl⟩:=hr21;refine mP ?_;rw[hM21,S0]at hq;refine xY (cs:=prE p17++prE p21) U0 Eb λb22=>?_
 refine WL.perm (Mv.perm (bl:=[_])) ?_;refine ZZ [2,2,0] ?_;refine xT (psR z j21::(b5X b22 p17 p21::(bl21++(bl17++h)))) (h1:=cA Q3) ?_;exact⟨_,_,b5X b22 p17 p21::(bl21++bl17),hq,⟨by omega,hj21.2⟩,⟨.mk 10 [] A0 A2 A2 B0 none 0 [] (some ⟨b22,0,none⟩) 2 [p17,p21] A2 B4,rfl,J5 _,a1g (by decide) (qi _) (B6 _ _) (B9 _ _) (B9 _ _) (P0 _ _) (T8 _ _) (ls2 b22 (hO17.mono (qc _ _)) (hO21.mono (qg _ _))) (P5 _ _) (K6 _ _)⟩,by rw[qN,qj]⟩;replace he10:=he10.trans (if_neg (E6 c10));subst r10;rw[if_neg (E6 c10)]at hq;refine ZZ [0,1] ?_;refine xf (E1 Ek) (L9 _ _ _) ?_;refine xY B3 Eb λb27=>?_
 refine pD (lnR b a10 ts.length u10) ?_;refine A1 Ef (E2 Et Et) (Q4 b a10 u10 ts _ _ _ _ _ hk10 (hs.trans Sb) (Rd.ofPt rfl (by decide) Me)) Lb (λv hv hx=>?_) λv28 h28 hr28=>?_
 ·obtain⟨hx1,rfl,rfl⟩:=hx;rw[a3q hx1]at hq;exact prP Tryz.f107 hq Sb
 obtain⟨hi28,a28,u28,hk28,rfl⟩:=hr28;rw[a3s hi28]at hq;refine ZZ [0,3] ?_;refine pP (psR z i) (lnR b a28 ts.tail.length u28) ?_;refine A1 Ef (Evs.cons Et (Evs.cons Ek (Evs.cons Et (Evs.cons Et (Evs.cons Ef Evs.nil))))) (a7M hg hz hrec 13 (by decide) _ a3D (λb a c ts h hT=>c2R hg b a c ts h hT) d i b a28 u28 ts.tail _ _ hk28 (hs.trans Sb) hi hf hd) Lb (λv hv hx=>?_) λv32 h32 hr32=>?_
 ·obtain⟨e,j,hx1,rfl,rfl⟩:=hx;(first|rw[hx1]at hq|rw[J3 hx1]at hq);exact prP Tryz.f107 hq Sb
 obtain⟨x32,j32,bl32,hM32,hj32,⟨p32,rfl,rfl,hO32⟩,rfl⟩:=hr32;refine mP ?_;rw[hM32]at hq;refine Z1 ?_;refine xT (psR z j32::(bl32++h)) (h1:=cA Q3) ?_;exact⟨_,_,bl32,hq,hj32,⟨p32,rfl,rfl,hO32⟩,rfl⟩
theorem c3p(r:Lt):a4Y r=if r.length=1/\(r.getD 0 zeroK).kind=3/\0<=(r.getD 0 zeroK).n/\(r.getD 0 zeroK).n<8 then some (r.getD 0 zeroK).n else none:=by
 cases r with
 |nil=>rfl
 |cons t r=>
  cases r with
  |nil=>
   show(if t.kind=3/\0<=t.n/\t.n<8 then some t.n else none)=_;by_cases h:t.kind=3/\0<=t.n/\t.n<8
   ·rw[if_pos h,if_pos ⟨rfl,h⟩];rfl
   ·rw[if_neg h,if_neg λq=>h q.2]
  |cons u r=>
   rw[if_neg]
   ·rfl
   ·intro q
    have:=q.1;simp only[qJ]at this;omega
theorem c1A{n:Nat}(h:(!((n:Int) !=1))=true):0<n:=by simp at h;omega
theorem c2f{n:Nat}{b:Bool}(h:(!(((n:Int) !=1)||b))=true):0<n:=by simp at h;omega
theorem c0t{n:Nat}{b b2:Bool}(h:(!((((n:Int) !=1)||b)||b2))=true):0<n:=by simp at h;omega
theorem c6A{n:Nat}{k v:Int}(h:(((((n:Int) !=1)||(k !=3))||decide (v<0))||decide (v>=8))=true):¬(n=1/\k=3/\0<=v/\v<8):=by rintro⟨rfl,rfl,h1,h2⟩;rw[zd (by omega),zd (by omega)]at h;cases h
theorem c3H{n:Nat}{k v:Int}(h:(((((n:Int) !=1)||(k !=3))||decide (v<0))||decide (v>=8))=false):n=1/\k=3/\0<=v/\v<8:=by simp at h;omega
abbrev plX(a:Oa)(c:Nat)(l:List Pr)(a2:Oa)(c2:Nat)(ns:List Int):Pr:=.mk 11 [] A0 A2 A2 B0 none 0 [] a c l ⟨a2,c2,ns⟩ B4
theorem b9J{m:View}(hg:Glob m){z:Pz}(hz:Pok m z){n:Nat}(hrec:REC m z n)(d:Int)(i b:Nat)(a:Oa)(c:Nat)(ts:Lt)(h hT:Lr)(hk:Tk2 m hT a c ts)(hs:hT.Sublist h)(hi:i<z.R.length)(hf:z.R.length<=i+n+1)(hd:0<=d/\d<=32) :
 QrX m z 112 [ptV z.bp,.int .i64 d,ptV b] i b a c ts h (a74 z.R (A4 z.R n) d ts i) (OP m):=by
 have hR:=hz.ok.1;have hq:a74 z.R (A4 z.R n) d ts i=M1 2 [80,65,82] ts i λr=>D4 r i λi=>J8 (O8 z.R (A4 z.R n) d (z.R.length-i) [] [] i) λx i=>.ok (prM 11 [] A0 [] [] B0 [] x.2 x.1 B4,i):=rfl
 refine xB [0,1,2,6,7,8,31,75] func112 λ_=>?_;refine xW λb6=>?_
 refine ZZ [0,1] ?_;refine xf (E1 Ek) (L9 _ _ _) ?_;refine xY B3 Eb λb11=>?_;refine pD (lnR b a ts.length c) ?_;refine A1 Ef (E2 Et Et) (Q4 b a c ts _ _ _ _ _ hk (by first|exact F8 Me|exact hs.trans Sb) (Rd.ofPt rfl (by decide) Me)) Lb (λv hv hx=>?_) λv12 h12 hr12=>?_
 ·obtain⟨hx1,rfl,rfl⟩:=hx;rw[a3q hx1]at hq;exact prP Tryz.f112 hq Sb
 obtain⟨hi12,a12,u12,hk12,rfl⟩:=hr12;rw[a3s hi12]at hq;refine ZZ [0,2] ?_;refine pP (psR z i) (lnR b a12 ts.tail.length u12) ?_;refine A1 Ef (E3 Et Ek Et) (b2P hz 11 i b a12 u12 ts.tail _ hi) Lb (λv hv hx=>?_) λv15 h15 hr15=>?_
 ·obtain⟨hx1,rfl,rfl⟩:=hx;rw[N9 hx1]at hq;exact prP Tryz.f112 hq Sb
 obtain⟨hz15,rfl,rfl⟩:=hr15;rw[N8 hz15]at hq;refine xW λb7=>?_
 refine kA1 ?_;refine WL.addNil 3 1 ?_;refine WL.addNil 46 42 ?_;refine pD (psR z (i+1)) ?_;refine Z0 ?_
 refine lI [0,1,6,7] (λμ F' h'=>∃a9:Oa,∃c9:Nat,∃l:List Pr,∃an:Oa,∃cn:Nat,∃ns:List Int,∃bl:Lr,∃k:Nat,∃j:Nat,((l.length+i+1<=j/\j<=z.R.length/\z.R.length<=j+k)/\((∀x∈l,POk m bl x)/\(∀x∈ns,-9223372036854775808<=x/\x<=9223372036854775807)/\ns.length=l.length)/\a74 z.R (A4 z.R n) d ts i=J8 (O8 z.R (A4 z.R n) d k ns (l.map stP) j) λx i=>.ok (prM 11 [] A0 [] [] B0 [] x.2 x.1 B4,i))/\k=μ/\F'=[]/\psR z j::.row (.slice a9 l.length c9) 46 42 l.length (fl prE l)::.row (.slice an ns.length cn) 3 1 ns.length (fl a1x ns)::prR b7 (plX a9 c9 l an cn ns)::prR b6 (p0 0 [] A0 A2 A2 B0)::(bl++h)=h') ((z.R.length-(i+1))) [] (psR z (i+1)::.row (.slice none ([]).length 0) 46 42 ([]).length (fl prE ([]))::.row (.slice none ([]).length 0) 3 1 ([]).length (fl a1x ([]))::prR b7 (plX none 0 ([]) none 0 ([]))::prR b6 (p0 0 [] A0 A2 A2 B0)::(([])++h)) ⟨none,0,[],none,0,[],[],z.R.length-(i+1),i+1,⟨⟨by simp,by omega,by omega⟩,⟨λ_ hx=>(qn hx).elim,λ_ hx=>(qn hx).elim,rfl⟩,hq⟩,rfl,rfl,rfl⟩ ?_
 rintro _ _ _ ⟨a9,c9,l,an,cn,ns,bl,k,j,⟨⟨hl,hj,hk⟩,⟨hS,hN,hNl⟩,hq⟩,rfl,rfl,rfl⟩;refine A9 rfl ?_;have hlm:(l.map stP).length=l.length:=qP _;refine b0g ?_;refine C2 (a0m rfl rfl) (λhc=>K3 (Eg hc) Ek (by first|omega|(simp at hc;omega))) Lb ?_;refine A3 (a0m rfl rfl) (λhc=>⟨Ef,(E2 (Eg hc) (Eg hc)),a6E hz j (d+1) _ Me⟩) Lb ?_;refine zG (λhc=>N3 hc rfl rfl) ?_;refine y1 ?_ ?_<;>intro c31
 change (((l.length:Int)==0)||(decide ((l.length:Int)<8)&&H6 z.R (d+1) j))=true at c31
 have hc:(l.map stP).length=0\/((l.map stP).length<8/\H6 z.R (d+1) j=true):=by simp only[qv,qa,qw,qU]at c31;rw[hlm];exact c31.imp (λq=>by omega) λq=>⟨by omega,q.2⟩
 rw[b1k hk hc]at hq;refine ZZ [0,3] ?_;refine pD (psR z j) ?_;refine A1 Ef (E2 Et Et) (a4z hg hz j _ _ (by omega)) Lb (λv hv hx=>?_) λv35 h35 hr35=>?_
 ·obtain⟨e,j,hx1,rfl,rfl⟩:=hx;(first|rw[hx1]at hq|rw[J3 hx1]at hq);exact prP Tryz.f112 hq Sb
 obtain⟨r35,b35,a35,u35,hM35,rfl,hk35,rfl⟩:=hr35;have ho35:=a1y hz hM35;rw[a3N hM35]at hq;refine ZZ [1,1] ?_;refine xf (E1 Ek) (L9 _ _ _) ?_;refine xY B3 Eb λb38=>?_
 refine pD (lnR b35 a35 r35.length u35) ?_;refine A1 Ef (E2 Et Et) (Q4 b35 a35 u35 r35 _ _ _ _ _ hk35 (by first|exact F8 Me|exact hs.trans Sb) (Rd.ofPt rfl (by decide) Me)) Lb (λv hv hx=>?_) λv39 h39 hr39=>?_
 ·obtain⟨hx1,rfl,rfl⟩:=hx;rw[a3q hx1]at hq;exact prP Tryz.f112 hq Sb
 obtain⟨hi39,a39,u39,hk39,rfl⟩:=hr39;rw[a3s hi39]at hq;refine Z0 ?_;obtain⟨t,ht⟩:∃t,t=r35.tail.getD 0 zeroK:=⟨_,rfl⟩;have hel0:0<r35.tail.length->r35.tail[0]?=some t:=λhq=>by rw[ht,ql,qk hq];rfl
 have hrd:=(hk39.mono (h':=tkW a35 u35 r35::[psR z j]) (F8 (qm _))).k.rd;have hpm:=c3p r35.tail;rw[<-ht]at hpm;refine kA8 ?_;refine zG (λhc=>PO.nilCheck (Eg hc)) ?_;refine kA2 ?_;refine zG (λhc=>D7 B3.und B3.size B3.posz (Eg hc) Ek Rr rfl (q:=0) (c1A hc)) ?_;refine zG (λhc=>D0 C7 rfl (qf rfl) A7 (qu _) Rr (hel0 (c1A hc)) (Eg hc)) ?_;refine zG (λhc=>D2 a2H rfl A7 Rr (Eg hc) (hel0 (c1A hc)) rfl) ?_;refine kA4 ?_;refine zG (λhc=>PO.nilCheck (Eg hc)) ?_;refine kA2 ?_;refine zG (λhc=>D7 B3.und B3.size B3.posz (Eg hc) Ek Rr rfl (q:=0) (c2f hc)) ?_;refine zG (λhc=>D0 C7 rfl (qf rfl) A7 (qu _) Rr (hel0 (c2f hc)) (Eg hc)) ?_;refine zG (λhc=>D2 a0R rfl A7 Rr (Eg hc) (hel0 (c2f hc)) rfl) ?_;refine kA4 ?_;refine zG (λhc=>PO.nilCheck (Eg hc)) ?_;refine kA2 ?_
 refine zG (λhc=>D7 B3.und B3.size B3.posz (Eg hc) Ek Rr rfl (q:=0) (c0t hc)) ?_;refine zG (λhc=>D0 C7 rfl (qf rfl) A7 (qu _) Rr (hel0 (c0t hc)) (Eg hc)) ?_;refine zG (λhc=>D2 a0R rfl A7 Rr (Eg hc) (hel0 (c0t hc)) rfl) ?_;refine y2 ?_ ?_<;>intro c75
 rw[if_neg (c6A c75)]at hpm;rw[hpm]at hq;refine j0 ?_;refine A1 Ef Evs.nil (I7 _ _) Lb (λv hv hx=>?_) λv76 h76 hr76=>?_
 ·obtain⟨rfl,rfl⟩:=hx;exact prP Tryz.f112 hq Sb
 exact hr76.elim;have d75:=c3H c75;rw[if_pos d75]at hpm;rw[hpm]at hq;dsimp only at hq;have hel:=hel0 (by omega);have h1l:=d75.1;refine Z0 ?_;refine dS [10] (.op 0 (.op 1 (.op 2 (.op 3 (.op 4 (.op 5 (.op 6 (.op 7 (.op 8 (.op 9 (.op 10 .nil))))))))))) [11,12,13] C9 ?_;refine kA6 ?_;refine yG rfl (D7 B3.und B3.size B3.posz (Ev.tmp rfl) Ek Rr rfl (q:=0) (by omega)) ?_;refine kA2 ?_;refine yG rfl (PO.conv a0R uu3 Et) ?_;refine SR.val (v':=.int .i64 t.n) (congrArg (Value.int .i64) (Go.Ty.wrapN ⟨by omega,by omega⟩)) ?_;refine sB rfl c1z λb87=>?_
 refine nS ?_;have hln1:(ns++[t.n]).length=ns.length+1:=qh;refine xD c1z (Ev.tmp rfl) (Ev.tmp rfl) (show ns.length+1=(ns++[t.n]).length by simp) (D9 (enc:=a1x) _ (t.n)) λa88 c88=>?_;refine ZZ [2,4,2] ?_;refine pP (psR z j) (lnR b35 none 0 0) ?_;refine A1 Ef (E2 Et Et) (M5 hz j b35 none 0 [] _ (by omega)) Lb (λv hv hx=>?_) λv95 h95 hr95=>?_
 ·exact absurd rfl hx.1
 obtain⟨-,rfl⟩:=hr95;refine wn [0,1,6,7] ?_;refine jE ?_;refine WC.drop (h':=psR z (j+1)::.row (.slice a9 l.length c9) 46 42 l.length (fl prE l)::.row (.slice a88 (ns++[t.n]).length c88) 3 1 (ns++[t.n]).length (fl a1x (ns++[t.n]))::prR b7 (plX a9 c9 l a88 c88 (ns++[t.n]))::prR b6 (p0 0 [] A0 A2 A2 B0)::(bl++h)) Sb ?_;refine WC.take (r:=psR z (j+1)) De ?_;refine F4 [5,6] (.op 0 (.op 1 (.op 2 (.op 3 (.op 4 (.op 5 (.op 6 .nil))))))) [7,8,9] _ [_] C9 (λ_ _ _ _ _ h=>h) [] (by kernel_rfl) ?_;refine kA4 ?_;refine yG rfl (K3 Et Ek (by omega)) ?_;refine R7 rfl rfl Ef (E3 Et Et Ek) (λfr=>c7D hrec (j+1) (d+2) false _ (by omega) (by omega) (by omega)) Lb (λfr v hv hx=>?_) λv101 h101 hr101=>?_
 ·obtain⟨e,j2,hx1,rfl,rfl⟩:=hx
  rw[hx1]at hq;exact prP Tryz.f112 hq ((a3e Sb fr).cons_cons _)
 obtain⟨p101,j101,bl101,hM101,hj101,rfl,hO101,rfl⟩:=hr101;refine sB rfl U0 λb102=>?_;refine a0V (H:=prR b102 p101::psR z j101::.row (.slice a9 l.length c9) 46 42 l.length (fl prE l)::.row (.slice a88 (ns++[t.n]).length c88) 3 1 (ns++[t.n]).length (fl a1x (ns++[t.n]))::prR b7 (plX a9 c9 l a88 c88 (ns++[t.n]))::prR b6 (p0 0 [] A0 A2 A2 B0)::(bl101++(bl++h))) rfl (((a0o bl101 [_,_,_,_] (bl++h)).cons _).cons _) ?_;have hln:(l++[p101]).length=l.length+1:=qh;refine xD U0 (Ev.tmp rfl) (Ev.tmp rfl) (show l.length+1=(l++[p101]).length by simp) (D9 (enc:=prE) _ (p101)) λa103 c103=>?_
 refine kA2 ?_;rw[hM101,S0]at hq;rw[<-qj bl101 bl];have hm2:(l++[p101]).map stP=l.map stP++[stP p101]:=by rw[qZ,zj]
 exact WL.nil (lN ((k-1)) [] (psR z j101::.row (.slice a103 (l++[p101]).length c103) 46 42 (l++[p101]).length (fl prE (l++[p101]))::.row (.slice a88 (ns++[t.n]).length c88) 3 1 (ns++[t.n]).length (fl a1x (ns++[t.n]))::prR b7 (plX a103 c103 (l++[p101]) a88 c88 (ns++[t.n]))::prR b6 (p0 0 [] A0 A2 A2 B0)::((bl101++bl)++h)) ⟨a103,c103,l++[p101],a88,c88,ns++[t.n],bl101++bl,k-1,j101,⟨⟨by omega,by omega,by omega⟩,⟨J1 (λy hy=>(hS y hy).mono (qc _ _)) (hO101.mono (qg _ _)),J1 hN ⟨by omega,by omega⟩,by omega⟩,hq.trans (by rw[hm2])⟩,rfl,rfl,rfl⟩);change (((l.length:Int)==0)||(decide ((l.length:Int)<8)&&H6 z.R (d+1) j))=false at c31
 have hc:¬((l.map stP).length=0\/((l.map stP).length<8/\H6 z.R (d+1) j=true)):=λq=>by
  rw[hlm]at q;have:(((l.length:Int)==0)||(decide ((l.length:Int)<8)&&H6 z.R (d+1) j))=true:=by simp only[qv,qa,qw,qU];exact q.imp (λq=>by omega) λq=>⟨by omega,q.2⟩
  rw[this]at c31;cases c31
 rw[a8j hc,S0]at hq;refine H4 (a:=a9) Me λp9 q9 r9=>?_
 refine H4 (a:=an) Me λp8 q8 r8=>?_;refine ZZ [0,2,0] ?_;refine xT (psR z j::(.row (.slice a9 l.length c9) 46 42 l.length (fl prE l)::.row (.slice an ns.length cn) 3 1 ns.length (fl a1x ns)::(bl++h))) (h1:=cA Q3) ?_;exact⟨_,_,.row (.slice a9 l.length c9) 46 42 l.length (fl prE l)::.row (.slice an ns.length cn) 3 1 ns.length (fl a1x ns)::bl,hq,⟨by omega,hj⟩,⟨plX a9 c9 l an cn ns,rfl,J5 _,a1g (by decide) (qi _) (B6 _ _) (B9 _ _) (B9 _ _) (P0 _ _) (T8 _ _) ⟨Rd.inRow (qm _) r9 p9 q9,λx hx=>(hS x hx).mono (((zi _).cons _).cons _)⟩ ⟨Rd.inRow (qD _ (qm _)) r8 p8 q8,hN⟩ (K6 _ _)⟩,rfl⟩
theorem b3C{α:Type}{take:Lt->E α}{sep:B}:∀{n:Nat}{acc:List α}{ts:Lt}{l:List α}{r:Lt},1<=acc.length->R6 take sep n acc ts=.ok (l,r)->1<=l.length
 |0,acc,ts,l,r,h0,h=>by
  unfold R6 at h;split at h
  ·cases h
  ·cases h;exact h0
 |n+1,acc,ts,l,r,h0,h=>by
  unfold R6 at h;split at h
  ·cases ht:take ts.tail with
   |error e=>rw[ht]at h;cases h
   |ok x=>obtain⟨x,r2⟩:=x;rw[ht,I5]at h;exact b3C (by rw[qh];omega) h
  ·cases h;exact h0
theorem c1T{α:Type}{take:Lt->E α}{sep:B}{n:Nat}{ts:Lt}{l:List α}{r:Lt}(h:H1 take sep n ts=.ok (l,r)):1<=l.length:=by
 unfold H1 at h;cases ht:take ts with
 |error e=>rw[ht]at h;cases h
 |ok x=>obtain⟨x,r2⟩:=x;rw[ht,I5]at h;exact b3C (qz _) h
theorem b9i{m:View}(hg:Glob m){z:Pz}(hz:Pok m z){n:Nat}(hrec:REC m z n)(d:Int)(i b:Nat)(a:Oa)(c:Nat)(ts:Lt)(h hT:Lr)(hk:Tk2 m hT a c ts)(hs:hT.Sublist h)(hi:i<z.R.length)(hf:z.R.length<=i+n+1)(hd:0<=d/\d<=32)(h0:0<ts.length) :
 QrX m z 47 [ptV z.bp,.int .i64 d,ptV b] i b a c ts h (S6 z.R (A4 z.R n) d ts i) (OP m):=by
 have hR:=hz.ok.1;have hq:S6 z.R (A4 z.R n) d ts i=if(ts.headD Go.Ty.zeroK).kind=1/\isM 5 [40] ts.tail=true then F2 (O0 ts) i λn r=>F2 (brM G6 r) i λl r=>D4 r i λi=>.ok (prM 17 n A0 [] l B0 [] [] [] B4,i)
  else F2 (H1 C5 [44] 8 ts) i λf r=>
  if isM 5 [58,61] r then F2 (H1 G6 [44] 8 r.tail) i λl r=>D4 r i λi=>.ok (prM 3 [] A0 f l B0 [] [] [] B4,i)
  else if f.length>1 then .error (110,i)
  else if isM 5 [33] r then F2 (H1 G6 [59] 9 r.tail) i λl r=>D4 r i λi=>.ok (prM 5 [] (f.headD A0) [] l B0 [] [] [] B4,i)
  else M1 5 [63] r i λr=>
   if isM 2 [67,65,83,69] r then D4 r.tail i λi=>J8 (U6 z.R (A4 z.R n) a6q 1 16 (d+1) i) λl i=>.ok (prM 7 [] (f.headD A0) [] [] B0 l [] [] B4,i)
   else if isM 2 [65,70,84,69,82] r then F2 (G6 r.tail) i λe r=>D4 r i λi=>.ok (prM 6 [] (f.headD A0) [] [e] B0 [] [] [] B4,i)
   else F2 (H1 C5 [59] 8 r) i λl r=>D4 r i λi=>.ok (prM 4 [] (f.headD A0) l [] B0 [] [] [] B4,i):=rfl
 have hrd:=(hk.mono hs).k.rd;obtain⟨t,ht⟩:∃t,t=ts.getD 0 zeroK:=⟨_,rfl⟩;have hel:ts[0]?=some t:=by rw[ht,ql,qk h0];rfl
 rw[b9T,<-ht]at hq;refine xB [0,1,2,6,7,8,9,28,46,61,72,93,108] func47 λ_=>?_
 refine xW λb6=>?_;refine ZZ [0,1] ?_;refine xW λb7=>?_
 refine ZZ [1,4] ?_;refine xG (S4 B3.und B3.size Et Ek (l:=1) rfl (by omega)) ?_;refine kA1 ?_;refine xW λb8=>?_;refine ZZ [1,4] ?_;refine xG (D7 B3.und B3.size B3.posz (Ev.tmp rfl) Ek Rr rfl (q:=0) (by omega)) ?_;refine kA4 ?_;refine A3 (GU.t rfl rfl) (λhc=>⟨Ef,(E1 Ek),H5 _ _ _⟩) Lb ?_;refine A3 (GU.t rfl rfl) (λhc=>⟨Ef,(E2 Et (Eg hc)),a4d b8 (sl1 a 1 c 4) (c-1) ts.tail _ _ hT (by rw[zg];exact zx ..) (hk.tail h0) (hs.trans Sb)⟩) Lb ?_;refine y1 ?_ ?_<;>intro c28
 have d28:t.kind=1/\isM 5 [40] ts.tail=true:=by simpa using c28
 rw[if_pos d28]at hq;refine kA1 ?_;refine pD (lnR b a ts.length c) ?_;refine A1 Ef (E1 Et) (a2k b a c ts _ _ hk (hs.trans Sb)) Lb (λv hv hx=>?_) λv30 h30 hr30=>?_
 ·obtain⟨e,hx1,rfl,rfl⟩:=hx;rw[hx1]at hq;exact prP Tryz.f47 hq Sb
 obtain⟨x30,r30,a30,u30,hM30,⟨rfl,hw30⟩,hk30,rfl⟩:=hr30;rw[hM30,J0]at hq;refine ZZ [4,2] ?_;refine xG (PO.makeFunc (E1 Et) Evs.nil) ?_;refine pD (lnR b a30 r30.length u30) ?_;refine A1 Ef (E2 Et Et) (c6o 98 G6 b a30 u30 r30 _ _ hk30 (hs.trans Sb) (λa c ts h hk hs=>X6 hg b a c ts h _ hk hs)) Lb (λv hv hx=>?_) λv36 h36 hr36=>?_
 ·obtain⟨e,hx1,rfl,rfl⟩:=hx;rw[hx1]at hq;exact prP Tryz.f47 hq Sb
 obtain⟨x36,r36,a36,u36,bl36,hM36,⟨s36,rfl,rfl,hO36⟩,hk36,rfl⟩:=hr36;refine mP ?_;rw[hM36,J0]at hq;refine ZZ [2,2] ?_;refine pP (psR z i) (lnR b a36 r36.length u36) ?_;refine A1 Ef (E2 Et Et) (M5 hz i b a36 u36 r36 _ (by omega)) Lb (λv hv hx=>?_) λv40 h40 hr40=>?_
 ·obtain⟨hx1,rfl,rfl⟩:=hx;rw[N9 hx1]at hq;exact prP Tryz.f47 hq Sb
 obtain⟨hz40,rfl⟩:=hr40;rw[N8 hz40]at hq;refine ZZ [0,2,0] ?_;refine xT (psR z (i+1)::(bl36++h)) (h1:=cA Q3) ?_;exact⟨_,_,bl36,hq,⟨by omega,by omega⟩,⟨.mk 17 x30 A0 A2 s36 B0 none 0 [] none 0 [] A2 B4,rfl,J5 _,a1g (by decide) hw30 (B6 _ _) (B9 _ _) hO36 (P0 _ _) (T8 _ _) (a07 _ _) (P5 _ _) (K6 _ _)⟩,rfl⟩;have d28:¬(t.kind=1/\isM 5 [40] ts.tail=true):=λq=>by
  have:((t.kind==1)&&isM 5 [40] ts.tail)=true:=by simpa using q
  exact absurd (this.symm.trans c28) (by decide)
 rw[if_neg d28]at hq;refine ZZ [0,2] ?_;refine xG (PO.makeFunc (E1 Et) Evs.nil) ?_;refine pD (lnR b a ts.length c) ?_;refine A1 Ef (E4 Et Ek Ek Et) (a1T 101 C5 [44] 8 b a c ts _ _ hk (hs.trans Sb) (by decide) (λa c ts h hk hs=>a1r hg b a c ts h _ hk hs)) Lb (λv hv hx=>?_) λv45 h45 hr45=>?_
 ·obtain⟨e,hx1,rfl,rfl⟩:=hx;rw[hx1]at hq;exact prP Tryz.f47 hq Sb
 obtain⟨x45,r45,a45,u45,bl45,hM45,⟨s45,rfl,rfl,hO45⟩,hk45,rfl⟩:=hr45;refine mP ?_;rw[hM45,J0]at hq;refine ZZ [1,1] ?_;refine xf (E1 Ek) (H5 _ _ _) ?_;refine pD (lnR b a45 r45.length u45) ?_;refine xg (E2 Et Et) (M9 b a45 u45 r45 _ _ _ hk45 (hs.trans Sb)) ?_;rintro _ _ ⟨a49,u49,r49,rfl,he49,hk49,rfl⟩;refine y1 ?_ ?_<;>intro c46
 replace he49:=he49.trans (if_pos c46);subst r49;rw[if_pos c46]at hq;refine kA3 ?_;refine xG (PO.makeFunc (E1 Et) Evs.nil) ?_;refine pD (lnR b a49 r45.tail.length u49) ?_;refine A1 Ef (E4 Et Ek Ek Et) (a1T 98 G6 [44] 8 b a49 u49 r45.tail _ _ hk49 (hs.trans Sb) (by decide) (λa c ts h hk hs=>X6 hg b a c ts h _ hk hs)) Lb (λv hv hx=>?_) λv54 h54 hr54=>?_
 ·obtain⟨e,hx1,rfl,rfl⟩:=hx;rw[hx1]at hq;exact prP Tryz.f47 hq Sb
 obtain⟨x54,r54,a54,u54,bl54,hM54,⟨s54,rfl,rfl,hO54⟩,hk54,rfl⟩:=hr54;refine mP ?_;rw[hM54,J0]at hq;refine ZZ [4,2] ?_;refine pP (psR z i) (lnR b a54 r54.length u54) ?_;refine A1 Ef (E2 Et Et) (M5 hz i b a54 u54 r54 _ (by omega)) Lb (λv hv hx=>?_) λv59 h59 hr59=>?_
 ·obtain⟨hx1,rfl,rfl⟩:=hx;rw[N9 hx1]at hq;exact prP Tryz.f47 hq Sb
 obtain⟨hz59,rfl⟩:=hr59;rw[N8 hz59]at hq;refine ZZ [0,2,0] ?_;refine xT (psR z (i+1)::(bl54++(bl45++h))) (h1:=cA Q3) ?_;exact⟨_,_,bl54++bl45,hq,⟨by omega,by omega⟩,⟨.mk 3 [] A0 s45 s54 B0 none 0 [] none 0 [] A2 B4,rfl,J5 _,a1g (by decide) (qi _) (B6 _ _) (hO45.mono (qc _ _)) (hO54.mono (qg _ _)) (P0 _ _) (T8 _ _) (a07 _ _) (P5 _ _) (K6 _ _)⟩,by rw[qj]⟩;replace he49:=he49.trans (if_neg (E6 c46));subst r49;rw[if_neg (E6 c46)]at hq;refine Z4 ?_;refine wD ?_ ?_<;>intro c61
 rw[if_pos (by rw[qP];omega)]at hq;refine j0 ?_;refine A1 Ef Evs.nil (I7 _ _) Lb (λv hv hx=>?_) λv65 h65 hr65=>?_
 ·obtain⟨rfl,rfl⟩:=hx;exact prP Tryz.f47 hq Sb
 exact hr65.elim;rw[if_neg (by rw[qP];omega)]at hq;refine Z0 ?_;have hp45:=c1T hM45;rw[qP]at hp45;have hrd45:=hO45.rd;obtain⟨e0,he0⟩:=A8 (l:=s45.l) (k:=0) (by omega);have hE0:EOk m bl45 e0:=hO45.ok e0 (qe he0);have hf0:(s45.l.map B5).headD A0=B5 e0:=by
  cases hs45:s45.l with
  |nil=>rw[hs45]at he0;cases he0
  |cons y r=>rw[hs45]at he0;cases he0;rfl
 rw[hf0]at hq;refine kA1 ?_;refine xG (D7 U9.und U9.size U9.posz (Ev.tmp rfl) Ek Rr rfl (q:=0) (by omega)) ?_;refine ZZ [3,1] ?_;refine xf (E1 Ek) (H5 _ _ _) ?_;refine pD (lnR b a49 r45.length u49) ?_;refine xg (E2 Et Et) (M9 b a49 u49 r45 _ _ _ hk49 (hs.trans Sb)) ?_;rintro _ _ ⟨a72,u72,r72,rfl,he72,hk72,rfl⟩;refine y0 ?_ ?_<;>intro c72
 replace he72:=he72.trans (if_pos c72);subst r72;rw[if_pos c72]at hq;refine kA2 ?_;refine xG (PO.makeFunc (E1 Et) Evs.nil) ?_;refine pD (lnR b a72 r45.tail.length u72) ?_;refine A1 Ef (E4 Et Ek Ek Et) (a1T 98 G6 [59] 9 b a72 u72 r45.tail _ _ hk72 (hs.trans Sb) (by decide) (λa c ts h hk hs=>X6 hg b a c ts h _ hk hs)) Lb (λv hv hx=>?_) λv76 h76 hr76=>?_
 ·obtain⟨e,hx1,rfl,rfl⟩:=hx;rw[hx1]at hq;exact prP Tryz.f47 hq Sb
 obtain⟨x76,r76,a76,u76,bl76,hM76,⟨s76,rfl,rfl,hO76⟩,hk76,rfl⟩:=hr76;refine mP ?_;rw[hM76,J0]at hq;refine ZZ [4,2] ?_;refine pP (psR z i) (lnR b a76 r76.length u76) ?_;refine A1 Ef (E2 Et Et) (M5 hz i b a76 u76 r76 _ (by omega)) Lb (λv hv hx=>?_) λv81 h81 hr81=>?_
 ·obtain⟨hx1,rfl,rfl⟩:=hx;rw[N9 hx1]at hq;exact prP Tryz.f47 hq Sb
 obtain⟨hz81,rfl⟩:=hr81;rw[N8 hz81]at hq;refine ZZ [0,2,0] ?_;refine xT (psR z (i+1)::(bl76++(bl45++h))) (h1:=cA Q3) ?_;exact⟨_,_,bl76++bl45,hq,⟨by omega,by omega⟩,⟨.mk 5 [] e0 A2 s76 B0 none 0 [] none 0 [] A2 B4,rfl,J5 _,a1g (by decide) (qi _) (hE0.mono (qc _ _)) (B9 _ _) (hO76.mono (qg _ _)) (P0 _ _) (T8 _ _) (a07 _ _) (P5 _ _) (K6 _ _)⟩,by rw[qj]⟩;replace he72:=he72.trans (if_neg (E6 c72));subst r72;rw[if_neg (E6 c72)]at hq;refine ZZ [0,1] ?_;refine xf (E1 Ek) (H5 _ _ _) ?_;refine xY B3 Eb λb85=>?_
 refine pD (lnR b a72 r45.length u72) ?_;refine A1 Ef (E2 Et Et) (Q4 b a72 u72 r45 _ _ _ _ _ hk72 (hs.trans Sb) (Rd.ofPt rfl (by decide) Me)) Lb (λv hv hx=>?_) λv86 h86 hr86=>?_
 ·obtain⟨hx1,rfl,rfl⟩:=hx;rw[a3q hx1]at hq;exact prP Tryz.f47 hq Sb
 obtain⟨hi86,a86,u86,hk86,rfl⟩:=hr86;rw[a3s hi86]at hq;refine ZZ [0,1] ?_;refine xf (E1 Ek) (L9 _ _ _) ?_;refine pD (lnR b a86 r45.tail.length u86) ?_;refine xg (E2 Et Et) (M9 b a86 u86 r45.tail _ _ _ hk86 (hs.trans Sb)) ?_;rintro _ _ ⟨a96,u96,r96,rfl,he96,hk96,rfl⟩;refine y1 ?_ ?_<;>intro c93
 replace he96:=he96.trans (if_pos c93);subst r96;rw[if_pos c93]at hq;refine ZZ [2,2] ?_;refine pP (psR z i) (lnR b a96 r45.tail.tail.length u96) ?_;refine A1 Ef (E2 Et Et) (M5 hz i b a96 u96 r45.tail.tail _ (by omega)) Lb (λv hv hx=>?_) λv100 h100 hr100=>?_
 ·obtain⟨hx1,rfl,rfl⟩:=hx;rw[N9 hx1]at hq;exact prP Tryz.f47 hq Sb
 obtain⟨hz100,rfl⟩:=hr100;rw[N8 hz100]at hq;refine ZZ [0,4] ?_;refine pD (psR z (i+1)) ?_;refine A1 Ef (E4 Et Et Et Ef) (a7N hg hz hrec _ a6q 1 16 _ (i+1) _ (by omega) (by omega) (by omega) (λb a c ts h hT=>c7O hg b a c ts h hT)) Lb (λv hv hx=>?_) λv105 h105 hr105=>?_
 ·obtain⟨e,j,hx1,rfl,rfl⟩:=hx;(first|rw[hx1]at hq|rw[J3 hx1]at hq);exact prP Tryz.f47 hq Sb
 obtain⟨x105,j105,bl105,hM105,hj105,⟨q105,w105,l105,rfl,rfl,hG105⟩,rfl⟩:=hr105;refine mP ?_;rw[hM105,S0]at hq;refine ZZ [2,2,0] ?_;refine xT (psR z j105::(bl105++(bl45++h))) (h1:=cA Q3) ?_;exact⟨_,_,bl105++bl45,hq,⟨by omega,hj105.2⟩,⟨.mk 7 [] e0 A2 A2 B0 q105 w105 l105 none 0 [] A2 B4,rfl,J5 _,a1g (by decide) (qi _) (hE0.mono (qc _ _)) (B9 _ _) (B9 _ _) (P0 _ _) (hG105.mono (qg _ _)) (a07 _ _) (P5 _ _) (K6 _ _)⟩,by rw[qj]⟩;replace he96:=he96.trans (if_neg (E6 c93));subst r96;rw[if_neg (E6 c93)]at hq;refine kA1 ?_;refine xf (E1 Ek) (L9 _ _ _) ?_;refine pD (lnR b a96 r45.tail.length u96) ?_;refine xg (E2 Et Et) (M9 b a96 u96 r45.tail _ _ _ hk96 (hs.trans Sb)) ?_;rintro _ _ ⟨a111,u111,r111,rfl,he111,hk111,rfl⟩;refine y1 ?_ ?_<;>intro c108
 replace he111:=he111.trans (if_pos c108);subst r111;rw[if_pos c108]at hq;refine kA1 ?_;refine pD (lnR b a111 r45.tail.tail.length u111) ?_;refine A1 Ef (E1 Et) (X6 hg b a111 u111 r45.tail.tail _ _ hk111 (hs.trans Sb)) Lb (λv hv hx=>?_) λv113 h113 hr113=>?_
 ·obtain⟨e,hx1,rfl,rfl⟩:=hx;rw[hx1]at hq;exact prP Tryz.f47 hq Sb
 obtain⟨x113,r113,a113,u113,bl113,hM113,⟨t113,rfl,rfl,hO113⟩,hk113,rfl⟩:=hr113;refine mP ?_;rw[hM113,J0]at hq;refine xY U9 Eb λb114=>?_
 refine WL.perm (Mv.perm (bl:=[_])) ?_;refine ZZ [4,2] ?_;refine pP (psR z i) (lnR b a113 r113.length u113) ?_;refine A1 Ef (E2 Et Et) (M5 hz i b a113 u113 r113 _ (by omega)) Lb (λv hv hx=>?_) λv119 h119 hr119=>?_
 ·obtain⟨hx1,rfl,rfl⟩:=hx;rw[N9 hx1]at hq;exact prP Tryz.f47 hq Sb
 obtain⟨hz119,rfl⟩:=hr119;rw[N8 hz119]at hq;refine ZZ [0,2,0] ?_;refine xT (psR z (i+1)::(exR b114 t113::(bl113++(bl45++h)))) (h1:=cA Q3) ?_;exact⟨_,_,exR b114 t113::(bl113++bl45),hq,⟨by omega,by omega⟩,⟨.mk 6 [] e0 A2 ⟨some ⟨b114,0,none⟩,1,[t113]⟩ B0 none 0 [] none 0 [] A2 B4,rfl,J5 _,a1g (by decide) (qi _) (hE0.mono ((qc _ _).cons _)) (B9 _ _) ((b6V b114 hO113).mono ((qg _ _).cons_cons _)) (P0 _ _) (T8 _ _) (a07 _ _) (P5 _ _) (K6 _ _)⟩,by rw[qN,qj]⟩;replace he111:=he111.trans (if_neg (E6 c108));subst r111;rw[if_neg (E6 c108)]at hq;refine kA2 ?_;refine xG (PO.makeFunc (E1 Et) Evs.nil) ?_;refine pD (lnR b a111 r45.tail.length u111) ?_
 refine A1 Ef (E4 Et Ek Ek Et) (a1T 101 C5 [59] 8 b a111 u111 r45.tail _ _ hk111 (hs.trans Sb) (by decide) (λa c ts h hk hs=>a1r hg b a c ts h _ hk hs)) Lb (λv hv hx=>?_) λv90 h90 hr90=>?_
 ·obtain⟨e,hx1,rfl,rfl⟩:=hx;rw[hx1]at hq;exact prP Tryz.f47 hq Sb
 obtain⟨x90,r90,a90,u90,bl90,hM90,⟨s90,rfl,rfl,hO90⟩,hk90,rfl⟩:=hr90;refine mP ?_;rw[hM90,J0]at hq;refine ZZ [4,2] ?_;refine pP (psR z i) (lnR b a90 r90.length u90) ?_;refine A1 Ef (E2 Et Et) (M5 hz i b a90 u90 r90 _ (by omega)) Lb (λv hv hx=>?_) λv119 h119 hr119=>?_
 ·obtain⟨hx1,rfl,rfl⟩:=hx;rw[N9 hx1]at hq;exact prP Tryz.f47 hq Sb
 obtain⟨hz119,rfl⟩:=hr119;rw[N8 hz119]at hq;refine ZZ [0,2,0] ?_;refine xT (psR z (i+1)::(bl90++(bl45++h))) (h1:=cA Q3) ?_;exact⟨_,_,bl90++bl45,hq,⟨by omega,by omega⟩,⟨.mk 4 [] e0 s90 A2 B0 none 0 [] none 0 [] A2 B4,rfl,J5 _,a1g (by decide) (qi _) (hE0.mono (qc _ _)) (hO90.mono (qg _ _)) (B9 _ _) (P0 _ _) (T8 _ _) (a07 _ _) (P5 _ _) (K6 _ _)⟩,by rw[qj]⟩
end
section
open Go.Eng Go.Pc Go.Sx Go
open Go.Xp hiding B E8
open Go.Ty (Ty Vr Tok eqT tyV E9 B1 A7 I6 zeroK H3 E5 encV D8 prL prV PrOk VOk mayPr)
open Go.Lx (encB C0 lexO)
open Go.Ly (Rw K7 C6)
abbrev OPr(m:View)(x:Bool×List Vr)(v:Value)(bl:Lr):Prop:=∃cs a c l,x=(cs,l.map R3)/\v=prV cs a l.length c/\PrOk m bl a l.length c l/\∀y∈l,y.items.length=y.n
abbrev pxR(b:Nat)(a:Oa)(k c:Nat):Res:=.pt b (.cells (prL true a k c).toArray 41 (0,0))
abbrev vxR(b:Nat)(v:Vr):Res:=.pt b (.cells (encV v).toArray 145 (0,0))
theorem c3P{m:View}(hg:Glob m){z:Pz}(hz:Pok m z)(d:Int)(i b:Nat)(a:Oa)(c:Nat)(ts:Lt)(h hT:Lr)(hk:Tk2 m hT a c ts)(hs:hT.Sublist h)(hi:i<z.R.length)(hd:0<=d/\d<=32) :
 QrX m z 90 [ptV z.bp,.int .i64 d,ptV b] i b a c ts h (a4l z.R d ts i) (OPr m):=by
 have hR:=hz.ok.1;have hq:a4l z.R d ts i=if isM 2 [73,83] ts then F2 (H1 S1 [59] 8 ts.tail) i λl r=>M1 5 [58] r i λr=>D4 r i λi=>.ok ((false,[vrM [] l]),i)
  else D4 ts i λi=>a1m z.R (d+1) 2 [67,65,83,69] i λi=>J8 (U8 z.R d (z.R.length-i) [] i) λl i=>a1m z.R d 5 [58] i λi=>.ok ((true,l),i):=rfl
 refine xB [0,1,2,6,7,8,9,10,13,48,72] func90 λ_=>?_;refine xW λb6=>?_
 refine ZZ [0,1] ?_;refine xf (E1 Ek) (L9 _ _ _) ?_;refine pD (lnR b a ts.length c) ?_;refine xg (E2 Et Et) (M9 b a c ts _ _ _ hk (by first|exact F8 Me|exact hs.trans Sb)) ?_;rintro _ _ ⟨a13,u13,r13,rfl,he13,hk13,rfl⟩;refine y0 ?_ ?_<;>intro c13
 replace he13:=he13.trans (if_pos c13);subst r13;rw[if_pos c13]at hq;refine kA2 ?_;refine xG (PO.makeFunc (E1 Et) Evs.nil) ?_;refine pD (lnR b a13 ts.tail.length u13) ?_;refine A1 Ef (E4 Et Ek Ek Et) (b3I 170 S1 [59] 8 b a13 u13 ts.tail _ _ hk13 (by first|exact F8 Me|exact hs.trans Sb) (by decide) (λa c ts h hk hs=>b7y hg b a c ts h _ hk hs)) Lb (λv hv hx=>?_) λv17 h17 hr17=>?_
 ·obtain⟨e,hx1,rfl,rfl⟩:=hx;rw[hx1]at hq;exact prP Tryz.f90 hq Sb
 obtain⟨x17,r17,a17,u17,bl17,hM17,⟨p17,q17,rfl,hS17,hO17⟩,hk17,rfl⟩:=hr17;refine mP ?_;rw[hM17,J0]at hq;refine kA1 ?_;refine xY a0j Eb λb19=>?_
 refine WL.perm (Mv.perm (bl:=[_])) ?_;refine kA1 ?_;refine xW λb7=>?_;refine ZZ [1,1] ?_;refine xf (E1 Ek) (H5 _ _ _) ?_;refine xY B3 Eb λb23=>?_
 refine pD (lnR b a17 r17.length u17) ?_;refine A1 Ef (E2 Et Et) (Q4 b a17 u17 r17 _ _ _ _ _ hk17 (by first|exact F8 Me|exact hs.trans Sb) (Rd.ofPt rfl (by decide) Me)) Lb (λv hv hx=>?_) λv24 h24 hr24=>?_
 ·obtain⟨hx1,rfl,rfl⟩:=hx;rw[a3q hx1]at hq;exact prP Tryz.f90 hq Sb
 obtain⟨hi24,a24,u24,hk24,rfl⟩:=hr24;rw[a3s hi24]at hq;refine ZZ [0,2] ?_;refine pP (psR z i) (lnR b a24 r17.tail.length u24) ?_;refine A1 Ef (E2 Et Et) (M5 hz i b a24 u24 r17.tail _ (by omega)) Lb (λv hv hx=>?_) λv27 h27 hr27=>?_
 ·obtain⟨hx1,rfl,rfl⟩:=hx;rw[N9 hx1]at hq;exact prP Tryz.f90 hq Sb
 obtain⟨hz27,rfl⟩:=hr27;rw[N8 hz27]at hq;refine ZZ [0,2,0] ?_;refine xT (psR z (i+1)::(vxR b19 ⟨[],p17,x17.length,q17,x17⟩::(bl17++h))) (h1:=cA b4R) ?_;exact⟨_,_,vxR b19 ⟨[],p17,x17.length,q17,x17⟩::bl17,hq,⟨by omega,by omega⟩,⟨false,some ⟨b19,0,none⟩,1,[⟨[],p17,x17.length,q17,x17⟩],rfl,rfl,⟨Rd.ofPt rfl (by show 1<=_;decide) (qm _),K5 ⟨hS17.mono Vl (qo _ _)⟩,K5 (qi _)⟩,K5 rfl⟩,rfl⟩;replace he13:=he13.trans (if_neg (E6 c13));subst r13;rw[if_neg (E6 c13)]at hq;refine ZZ [0,2] ?_;refine pP (psR z i) (lnR b a13 ts.length u13) ?_;refine A1 Ef (E2 Et Et) (M5 hz i b a13 u13 ts _ (by omega)) Lb (λv hv hx=>?_) λv31 h31 hr31=>?_
 ·obtain⟨hx1,rfl,rfl⟩:=hx;rw[N9 hx1]at hq;exact prP Tryz.f90 hq Sb
 obtain⟨hz31,rfl⟩:=hr31;rw[N8 hz31]at hq;refine ZZ [0,3] ?_;refine xf (E1 Ek) (L9 _ _ _) ?_;refine xY B3 Eb λb36=>?_
 refine pD (psR z (i+1)) ?_;refine A1 Ef (E3 Et Et Et) (b2C hg hz (i+1) _ _ _ _ _ (by omega) (Rd.ofPt rfl (by decide) Me)) Lb (λv hv hx=>?_) λv37 h37 hr37=>?_
 ·obtain⟨e,hx1,rfl,rfl⟩:=hx;rw[hx1]at hq;exact prP Tryz.f90 hq Sb
 obtain⟨ho37,hz37,rfl⟩:=hr37;rw[hz37]at hq;refine ZZ [0,1] ?_;refine xW λb8=>?_
 refine kA1 ?_;refine WL.addNil 145 2 ?_;refine pD (psR z (i+1+1)) ?_;refine Z0 ?_;refine lI [0,1,6,8] (λμ F' h'=>∃a9:Oa,∃c9:Nat,∃l:List Vr,∃bl:Lr,∃k:Nat,∃j:Nat,((l.length+i+2<=j/\j<=z.R.length/\z.R.length<=j+k)/\(∀y∈l,VOk m bl y/\y.tag.length<=Big/\y.items.length=y.n)/\a4l z.R d ts i=J8 (U8 z.R d k (l.map R3) j) λl i=>a1m z.R d 5 [58] i λi=>.ok ((true,l),i))/\k=μ/\F'=[]/\psR z j::.row (.slice a9 l.length c9) 145 2 l.length (fl encV l)::pxR b8 a9 l.length c9::.pt b6 (.cells (prL false none 0 0).toArray 41 (0,0))::(bl++h)=h') ((z.R.length-(i+1+1))) [] (psR z (i+1+1)::.row (.slice none ([]).length 0) 145 2 ([]).length (fl encV ([]))::pxR b8 none ([]).length 0::.pt b6 (.cells (prL false none 0 0).toArray 41 (0,0))::(([])++h)) ⟨none,0,[],[],z.R.length-(i+1+1),i+1+1,⟨⟨by simp,by omega,by omega⟩,λ_ hx=>(qn hx).elim,hq⟩,rfl,rfl,rfl⟩ ?_
 rintro _ _ _ ⟨a9,c9,l,bl,k,j,⟨⟨hl,hj,hk⟩,hV,hq⟩,rfl,rfl,rfl⟩;refine A9 rfl ?_;have hlm:(l.map R3).length=l.length:=qP _;refine kA7 ?_;refine C2 (GU.f rfl rfl) (λhc=>K3 (Eg hc) Ek (by first|omega|(simp at hc;omega))) Lb ?_;refine A3 (GU.f rfl rfl) (λhc=>⟨Ef,(E2 (Eg hc) (Eg hc)),a6E hz j (d+2) _ Me⟩) Lb ?_;refine y1 ?_ ?_<;>intro c48
 have hc:(l.map R3).length=0\/H6 z.R (d+2) j=true:=by simp only[qv,qU]at c48;rw[hlm];exact c48.imp (λq=>by omega) id
 rw[b4X hk hc]at hq;refine ZZ [0,3] ?_;refine pD (psR z j) ?_;refine A1 Ef (E2 Et Et) (a4z hg hz j _ _ (by omega)) Lb (λv hv hx=>?_) λv52 h52 hr52=>?_
 ·obtain⟨e,j,hx1,rfl,rfl⟩:=hx;(first|rw[hx1]at hq|rw[J3 hx1]at hq);exact prP Tryz.f90 hq Sb
 obtain⟨r52,b52,a52,u52,hM52,rfl,hk52,rfl⟩:=hr52;have ho52:=a1y hz hM52;rw[a3N hM52]at hq;refine Z1 ?_;have hv:W7 r52=I3 (O0 r52) λn r=>if isM 5 [59] r then I3 (H1 S1 [59] 8 r.tail) λl r=>.ok (vrM n l,r)else .ok (vrM n [],r):=rfl
 refine kA1 ?_;refine pD (lnR b52 a52 r52.length u52) ?_;refine A1 Ef (E1 Et) (a2k b52 a52 u52 r52 _ _ hk52 (by first|exact F8 Me|exact hs.trans Sb)) Lb (λv hv hx=>?_) λv54 h54 hr54=>?_
 ·obtain⟨e,hx1,rfl,rfl⟩:=hx
  rw[hx1]at hv;rw[show W7 r52=.error e from hv]at hq;exact prP Tryz.f90 hq Sb
 obtain⟨x54,r54,a54,u54,hM54,⟨rfl,hw54⟩,hk54,rfl⟩:=hr54;rw[hM54,I5]at hv;refine kA1 ?_;refine xW λb10=>?_
 refine ZZ [1,1] ?_;refine xf (E1 Ek) (H5 _ _ _) ?_;refine pD (lnR b52 a54 r54.length u54) ?_;refine xg (E2 Et Et) (M9 b52 a54 u54 r54 _ _ _ hk54 (by first|exact F8 Me|exact hs.trans Sb)) ?_;rintro _ _ ⟨a58,u58,r58,rfl,he58,hk58,rfl⟩;refine kP0 [0,1,6,8,9,10,58] ?_;refine D6 KKh [0,1,6,8,9,10] rfl (λF' h'=>∃w:Vr,∃bl2:Lr,∃x:Oa,∃y:Nat,∃r:Lt,((VOk m bl2 w/\w.tag.length<=Big/\w.items.length=w.n)/\Tk2 m [tkW a52 u52 r52] x y r/\W7 r52=.ok (R3 w,r))/\F'=[]/\lnR b52 x r.length y::vxR b10 w::tkW a52 u52 r52::psR z j::.row (.slice a9 l.length c9) 145 2 l.length (fl encV l)::pxR b8 a9 l.length c9::.pt b6 (.cells (prL false none 0 0).toArray 41 (0,0))::(bl2++(bl++h))=h') ?_ ?_;refine jE ?_;refine wc ?_ ?_<;>intro c58
 replace he58:=he58.trans (if_pos c58);subst r58;rw[if_pos c58]at hv;refine kA2 ?_;refine xG (PO.makeFunc (E1 Et) Evs.nil) ?_;refine pD (lnR b52 a58 r54.tail.length u58) ?_;refine A1 Ef (E4 Et Ek Ek Et) (b3I 170 S1 [59] 8 b52 a58 u58 r54.tail _ _ hk58 (by first|exact F8 Me|exact hs.trans Sb) (by decide) (λa c ts h hk hs=>b7y hg b52 a c ts h _ hk hs)) Lb (λv hv hx=>?_) λv62 h62 hr62=>?_
 ·obtain⟨e,hx1,rfl,rfl⟩:=hx
  rw[hx1]at hv;rw[show W7 r52=.error e from hv]at hq;exact prP Tryz.f90 hq Sb
 obtain⟨x62,r62,a62,u62,bl62,hM62,⟨p62,q62,rfl,hS62,hO62⟩,hk62,rfl⟩:=hr62;refine mP ?_;rw[hM62,I5]at hv;refine kA2 ?_;exact WL.nil (mN [] (lnR b52 a62 r62.length u62::vxR b10 (⟨x54,p62,x62.length,q62,x62⟩)::tkW a52 u52 r52::psR z j::.row (.slice a9 l.length c9) 145 2 l.length (fl encV l)::pxR b8 a9 l.length c9::.pt b6 (.cells (prL false none 0 0).toArray 41 (0,0))::(bl62++(bl++h))) ⟨⟨x54,p62,x62.length,q62,x62⟩,bl62,a62,u62,r62,⟨⟨⟨hS62⟩,hw54,rfl⟩,hk62,hv⟩,rfl,rfl⟩);replace he58:=he58.trans (if_neg (E6 c58));subst r58;rw[if_neg (E6 c58)]at hv;exact WC.skip (mN [] (lnR b52 a58 r54.length u58::vxR b10 (⟨x54,none,0,0,[]⟩)::tkW a52 u52 r52::psR z j::.row (.slice a9 l.length c9) 145 2 l.length (fl encV l)::pxR b8 a9 l.length c9::.pt b6 (.cells (prL false none 0 0).toArray 41 (0,0))::(([])++(bl++h))) ⟨⟨x54,none,0,0,[]⟩,[],a58,u58,r54,⟨⟨⟨Rd.nilF H3 1 m _⟩,hw54,rfl⟩,hk58,hv⟩,rfl,rfl⟩)
 rintro _ _ ⟨w,bl2,x,y,r,⟨hw,hk1,hv⟩,rfl,rfl⟩;refine A9 rfl ?_;rw[hv,J0]at hq;refine kA3 ?_;refine xY a0j Eb λb67=>?_
 have hln:(l++[w]).length=l.length+1:=qh;refine xD a0j (Ev.tmp rfl) (Ev.tmp rfl) (show l.length+1=(l++[w]).length by simp) (D9 (enc:=encV) _ (w)) λa68 c68=>?_;refine kA2 ?_;rw[<-qj bl2 bl h];have hV2:∀y∈l++[w],VOk m (bl2++bl) y/\y.tag.length<=Big/\y.items.length=y.n:=J1 (λy hy=>⟨(hV y hy).1.mono Vl (qc _ _),(hV y hy).2⟩) ⟨hw.1.mono Vl (qg _ _),hw.2⟩;refine kR a68 λp68 q68 r68=>?_
 refine ZZ [0,1] ?_;refine xf (E1 Et) (Ty9.mayProto_ct true a68 _ c68 (l++[w]) _ _ hg ⟨Rd.inRow Me r68 p68 q68,λy hy=>(hV2 y hy).1.mono Vl ((qg _ _).trans Sb),λy hy=>qr (hV2 y hy).2.1 (by decide)⟩) ?_;refine y1 ?_ ?_<;>intro c72
 have d72:mayPr true (l.map R3++[R3 w])=false:=by have:=a71 true (l++[w]);rw[qZ,zj]at this;rw[this];simpa using c72
 rw[if_neg (E6 d72)]at hq;refine j0 ?_;refine A1 Ef Evs.nil (I7 _ _) Lb (λv hv hx=>?_) λv73 h73 hr73=>?_
 ·obtain⟨rfl,rfl⟩:=hx;exact prP Tryz.f90 hq Sb
 exact hr73.elim;have d72:mayPr true (l.map R3++[R3 w])=true:=by have:=a71 true (l++[w]);rw[qZ,zj]at this;rw[this];simpa using c72
 rw[if_pos d72]at hq;refine ZZ [0,2] ?_;refine pP (psR z j) (lnR b52 x r.length y) ?_;refine A1 Ef (E2 Et Et) (M5 hz j b52 x y r _ (by omega)) Lb (λv hv hx=>?_) λv76 h76 hr76=>?_
 ·obtain⟨hx1,rfl,rfl⟩:=hx;rw[N9 hx1]at hq;exact prP Tryz.f90 hq Sb
 obtain⟨hz76,rfl⟩:=hr76;rw[N8 hz76]at hq;exact WL.nil (lN ((k-1)) [] (psR z ((j+1))::.row (.slice a68 (l++[w]).length c68) 145 2 (l++[w]).length (fl encV (l++[w]))::pxR b8 a68 (l++[w]).length c68::.pt b6 (.cells (prL false none 0 0).toArray 41 (0,0))::((bl2++bl)++h)) ⟨a68,c68,l++[w],bl2++bl,k-1,(j+1),⟨⟨by omega,by omega,by omega⟩,hV2,hq.trans (by rw[qZ,zj])⟩,rfl,rfl,rfl⟩);have hc:¬((l.map R3).length=0\/H6 z.R (d+2) j=true):=λq=>by
  rw[hlm]at q;have:(((l.length:Int)==0)||H6 z.R (d+2) j)=true:=by simp only[qv,qU];exact q.imp (λq=>by omega) id
  rw[this]at c48;cases c48
 rw[a9d hc,S0]at hq;refine H4 (a:=a9) Me λp9 q9 r9=>?_
 refine ZZ [0,2] ?_;refine xf (E1 Ek) (H5 _ _ _) ?_;refine xY B3 Eb λb80=>?_;refine pD (psR z j) ?_;refine A1 Ef (E3 Et Et Et) (b2C hg hz j _ _ _ _ _ (by omega) (Rd.ofPt rfl (by decide) Me)) Lb (λv hv hx=>?_) λv81 h81 hr81=>?_
 ·obtain⟨e,hx1,rfl,rfl⟩:=hx;rw[hx1]at hq;exact prP Tryz.f90 hq Sb
 obtain⟨ho81,hz81,rfl⟩:=hr81;rw[hz81]at hq;refine ZZ [0,2,0] ?_;refine xT (psR z (j+1)::(.row (.slice a9 l.length c9) 145 2 l.length (fl encV l)::(bl++h))) (h1:=cA b4R) ?_;exact⟨_,_,.row (.slice a9 l.length c9) 145 2 l.length (fl encV l)::bl,hq,⟨by omega,by omega⟩,⟨true,a9,c9,l,rfl,rfl,⟨Rd.inRow (qm _) r9 p9 q9,λy hy=>(hV y hy).1.mono Vl (qo _ _),λy hy=>qr (hV y hy).2.1 (by decide)⟩,λy hy=>(hV y hy).2.2⟩,rfl⟩
abbrev spR(b:Nat)(s:Sp):Res:=.pt b (.cells (spE s).toArray 44 (0,0))
abbrev nmR(b:Nat)(s:B):Res:=.pt b (.cells [str s].toArray 9 (0,0))
abbrev s0(k:Int)(ty:Ty)(ns:Sli B)(e:Ex):Sp:=.mk k ty ns e false A2 A2 none 0 []
theorem b6i(m:View)(h:Lr):Rd m h none 0 0 6 (fl foE []):=Rd.nilF foE 6 m h
abbrev SpX(m:View)(z:Pz)(i b:Nat)(ts:Lt)(hT h:Lr)(M:PE (Option Sp))(v:Value)(h':Lr):Prop:=
 ∃so j X s,M=.ok (so,j)/\v=.tuple #[spV s,.bool (Option.isSome so)]/\h'=psR z j::(X++h)/\(so=none->j=i/\∃a c,X=[lnR b a ts.length c]/\Tk2 m hT a c ts)/\∀s',so=some s'->(i<j/\j<=z.R.length)/\stS s=s'/\Ss m X s
theorem b0H{m:View}{z:Pz}{i b:Nat}{ts:Lt}{hT h:Lr}{M:PE (Option Sp)}{s:Sp}{s':Sp}{j:Nat}{X:Lr}(hM:M=.ok (some s',j))(hj:i<j/\j<=z.R.length)(hs:stS s=s')(hS:Ss m X s){H:Lr}(he:H=psR z j::(X++h)) :
 SpX m z i b ts hT h M (.tuple #[spV s,.bool true]) H:=⟨some s',j,X,s,hM,rfl,he,nofun,λ_ e=>by cases e;exact⟨hj,hs,hS⟩⟩
theorem sS1{m:View}{h:Lr}{k:Int}{ty:Ty}{ns:Sli B}{e:Ex}(hk:0<=k/\k<=255)(ht:TyW ty)(hn:Rd m h ns.a ns.l.length ns.c 1 (fl encB ns.l))(hw:∀x∈ns.l,x.length<=Big)(he:EOk m h e):Ss m h (s0 k ty ns e):=
 ⟨⟨hk,ht,hn,hw,he,a5D m h,λ_ hx=>(qn hx).elim,b6i m h,λ_ hx=>(qn hx).elim,Rd.nilF prE 42 m h⟩,λ_ hx=>(qn hx).elim⟩
theorem c5M:TyW Go.Ty.zeroT:=⟨by decide,by decide,by decide,qi _⟩
theorem c4G{m:View}(hg:Glob m){z:Pz}(hz:Pok m z){n:Nat}(hrec:REC m z n)(d:Int)(i b:Nat)(a:Oa)(c:Nat)(ts:Lt)(h hT:Lr)(hk:Tk2 m hT a c ts)(hs:hT.Sublist h)(hi:i<z.R.length)(hf:z.R.length<=i+n+1)(hd:0<=d/\d<=32) :
 CX prog 45 [ptV z.bp,.int .i64 d,ptV b] (psR z i::lnR b a ts.length c::h) m (λv _ h'=>SpX m z i b ts hT h (a2C z.R (A4 z.R n) d ts i) v h') (λv h'=>PrE z (a2C z.R (A4 z.R n) d ts i) h v h'):=by
 have hR:=hz.ok.1;have hq:a2C z.R (A4 z.R n) d ts i=if isM 2 [80,82,79,84,79,67,79,76] ts then F2 (O0 ts.tail) i λnm r=>J8 (a4l z.R d r i) λp i=>.ok (some (spM 4 Go.Ty.zeroT [nm] A0 p.1 p.2 [] []),i)
 else if isM 2 [80,82,79,67] ts then F2 (O0 ts.tail) i λnm r=>F2 (brM a0d r) i λfs r=>D4 r i λi=>J8 (A4 z.R n (d+1) false i) λx i=>a1m z.R d 5 [58] i λi=>.ok (some (spM 5 Go.Ty.zeroT [nm] A0 false [] fs [x]),i)
 else if isM 2 [86,65,76] ts then F2 (a1Y ts.tail) i λt r=>F2 (O0 r) i λnm r=>M1 2 [73,83] r i λr=>F2 (G6 r) i λe r=>a5i (spM 2 t [nm] e false [] [] []) r i
 else if isM 5 [91] ts||isM 2 [73,78,84] ts||isM 2 [66,89,84,69] ts||isM 2 [66,79,79,76] ts||isM 2 [67,72,65,78] ts||isM 2 [84,73,77,69,82] ts then F2 (a1Y ts) i λt r=>F2 (H1 O0 [44] 8 r) i λns r=>if isM 2 [73,83] r then F2 (C5 r.tail) i λe r=>a5i (spM 3 t ns e false [] [] []) r i else a5i (spM 1 t ns A0 false [] [] []) r i
 else .ok (none,i):=rfl
 refine xB [0,1,2,6,7,9,23,50,67,95,106] func45 λ_=>?_;refine xW λb6=>?_
 refine kP1 [0,1,2,6] ?_;refine D6 KKh [0,2,6] rfl (λF' h'=>∃s:Sp,∃bl:Lr,∃x:Oa,∃y:Nat,∃r:Lt,(Ss m bl s/\Tk2 m hT x y r/\a2C z.R (A4 z.R n) d ts i=a5i (stS s) r i)/\F'=[]/\lnR b x r.length y::spR b6 s::psR z i::(bl++h)=h') ?_ ?_;refine kA1 ?_;refine xf (E1 Ek) (L9 _ _ _) ?_;refine pD (lnR b a ts.length c) ?_;refine xg (E2 Et Et) (M9 b a c ts _ _ _ hk (by first|exact F8 Me|exact hs.trans Sb)) ?_;rintro _ _ ⟨a12,u12,r12,rfl,he12,hk12,rfl⟩;refine y1 ?_ ?_<;>intro c9
 replace he12:=he12.trans (if_pos c9);subst r12;rw[if_pos c9]at hq;refine kA1 ?_;refine pD (lnR b a12 ts.tail.length u12) ?_;refine A1 Ef (E1 Et) (a2k b a12 u12 ts.tail _ _ hk12 (by first|exact F8 Me|exact hs.trans Sb)) Lb (λv hv hx=>?_) λv14 h14 hr14=>?_
 ·obtain⟨e,hx1,rfl,rfl⟩:=hx;rw[hx1]at hq;exact prP Tryz.f45 hq Sb
 obtain⟨x14,r14,a14,u14,hM14,⟨rfl,hw14⟩,hk14,rfl⟩:=hr14;rw[hM14,J0]at hq;refine xY M3 Eb λb15=>?_
 refine WL.perm (Mv.perm (bl:=[_])) ?_;refine ZZ [2,3] ?_;refine pP (psR z i) (lnR b a14 r14.length u14) ?_;refine A1 Ef (E3 Et Et Et) (c3P hg hz d i b a14 u14 r14 _ _ hk14 (by first|exact F8 Me|exact hs.trans Sb) hi hd) Lb (λv hv hx=>?_) λv20 h20 hr20=>?_
 ·obtain⟨e,j,hx1,rfl,rfl⟩:=hx;(first|rw[hx1]at hq|rw[J3 hx1]at hq);exact prP Tryz.f45 hq Sb
 obtain⟨x20,j20,bl20,hM20,hj20,⟨e20,q20,w20,l20,rfl,rfl,hP20,hL20⟩,rfl⟩:=hr20;refine mP ?_;rw[hM20,S0]at hq;refine ZZ [2,3,0] ?_;refine WC.ret (toX (.inl rfl) (c2s (h':=psR z j20::((nmR b15 x14::bl20)++h)) (.inl rfl) rfl (W6 a4R rfl rfl rfl Me rfl) (RV.tmp rfl) Vl Sb ?_));exact b0H hq hj20 (Q8 _) (s:=.mk 4 Go.Ty.zeroT ⟨some ⟨b15,0,none⟩,1,[x14]⟩ A0 e20 ⟨q20,w20,l20⟩ A2 none 0 []) ⟨⟨(show(0:Int)<=4/\(4:Int)<=255 by decide),c5M,Rd.ofPt rfl (by show 1<=_;decide) (qm _),K5 hw14,B6 _ _,hP20.mono Vl (qo _ _),hL20,b6i _ _,λ_ hx=>(qn hx).elim,Rd.nilF prE 42 m _⟩,λ_ hx=>(qn hx).elim⟩ rfl;replace he12:=he12.trans (if_neg (E6 c9));subst r12;rw[if_neg (E6 c9)]at hq;refine kA1 ?_;refine xf (E1 Ek) (L9 _ _ _) ?_;refine pD (lnR b a12 ts.length u12) ?_
 refine xg (E2 Et Et) (M9 b a12 u12 ts _ _ _ hk12 (by first|exact F8 Me|exact hs.trans Sb)) ?_;rintro _ _ ⟨a26,u26,r26,rfl,he26,hk26,rfl⟩;refine y1 ?_ ?_<;>intro c23
 replace he26:=he26.trans (if_pos c23);subst r26;rw[if_pos c23]at hq;refine kA1 ?_;refine pD (lnR b a26 ts.tail.length u26) ?_;refine A1 Ef (E1 Et) (a2k b a26 u26 ts.tail _ _ hk26 (by first|exact F8 Me|exact hs.trans Sb)) Lb (λv hv hx=>?_) λv28 h28 hr28=>?_
 ·obtain⟨e,hx1,rfl,rfl⟩:=hx;rw[hx1]at hq;exact prP Tryz.f45 hq Sb
 obtain⟨x28,r28,a28,u28,hM28,⟨rfl,hw28⟩,hk28,rfl⟩:=hr28;rw[hM28,J0]at hq;refine xY M3 Eb λb29=>?_
 refine WL.perm (Mv.perm (bl:=[_])) ?_;refine kA2 ?_;refine xG (PO.makeFunc (E1 Et) Evs.nil) ?_;refine pD (lnR b a28 r28.length u28) ?_;refine A1 Ef (E2 Et Et) (c4T 92 a0d b a28 u28 r28 _ _ hk28 (by first|exact F8 Me|exact hs.trans Sb) (λa c ts h hk hs=>b8H hg b a c ts h _ hk hs)) Lb (λv hv hx=>?_) λv33 h33 hr33=>?_
 ·obtain⟨e,hx1,rfl,rfl⟩:=hx;rw[hx1]at hq;exact prP Tryz.f45 hq Sb
 obtain⟨x33,r33,a33,u33,bl33,hM33,⟨p33,q33,rfl,hS33,hF33⟩,hk33,rfl⟩:=hr33;refine mP ?_;rw[hM33,J0]at hq;refine ZZ [2,2] ?_;refine pP (psR z i) (lnR b a33 r33.length u33) ?_;refine A1 Ef (E2 Et Et) (M5 hz i b a33 u33 r33 _ (by omega)) Lb (λv hv hx=>?_) λv37 h37 hr37=>?_
 ·obtain⟨hx1,rfl,rfl⟩:=hx;rw[N9 hx1]at hq;exact prP Tryz.f45 hq Sb
 obtain⟨hz37,rfl⟩:=hr37;rw[N8 hz37]at hq;refine ZZ [0,3] ?_;refine pD (psR z (i+1)) ?_;refine A1 Ef (E3 Et Et Ek) (hrec (i+1) _ _ _ (by omega) (by omega) (by omega)) Lb (λv hv hx=>?_) λv41 h41 hr41=>?_
 ·obtain⟨e,j,hx1,rfl,rfl⟩:=hx;(first|rw[hx1]at hq|rw[J3 hx1]at hq);exact prP Tryz.f45 hq Sb
 obtain⟨x41,j41,bl41,hM41,hj41,⟨p41,rfl,rfl,hO41⟩,rfl⟩:=hr41;refine mP ?_;rw[hM41,S0]at hq;refine xY U0 Eb λb42=>?_
 refine WL.perm (Mv.perm (bl:=[_])) ?_;refine ZZ [2,2] ?_;refine xf (E1 Ek) (H5 _ _ _) ?_;refine xY B3 Eb λb47=>?_;refine pD (psR z j41) ?_;refine A1 Ef (E3 Et Et Et) (b2C hg hz j41 _ _ _ _ _ (by omega) (Rd.ofPt rfl (by decide) Me)) Lb (λv hv hx=>?_) λv48 h48 hr48=>?_
 ·obtain⟨e,hx1,rfl,rfl⟩:=hx;rw[hx1]at hq;exact prP Tryz.f45 hq Sb
 obtain⟨ho48,hz48,rfl⟩:=hr48;rw[hz48]at hq;refine ZZ [0,3,0] ?_;refine WC.ret (toX (.inl rfl) (c2s (h':=psR z (j41+1)::nmR b29 x28::prR b42 p41::(bl41++(bl33++h))) (.inl rfl) rfl (W6 a4R rfl rfl rfl Me rfl) (RV.tmp rfl) Vl Sb ?_));exact b0H hq (by omega) (Q8 _) (s:=.mk 5 Go.Ty.zeroT ⟨some ⟨b29,0,none⟩,1,[x28]⟩ A0 false A2 ⟨p33,q33,x33⟩ (some ⟨b42,0,none⟩) 1 [p41]) ⟨⟨(show(0:Int)<=5/\(5:Int)<=255 by decide),c5M,Rd.ofPt rfl (by show 1<=_;decide) (qm _),K5 hw28,B6 _ _,a5D _ _,λ_ hx=>(qn hx).elim,hS33.mono Vl (((qc _ _).cons _).cons _),hF33,Rd.ofPt rfl (by show 1<=_;decide) (qD _ (qm _))⟩,K5 (hO41.mono (((qg _ _).cons _).cons _))⟩ (X:=nmR b29 x28::prR b42 p41::(bl41++bl33)) (by simp only[qN,qj]);replace he26:=he26.trans (if_neg (E6 c23));subst r26
 rw[if_neg (E6 c23)]at hq;refine kA1 ?_;refine xf (E1 Ek) (L9 _ _ _) ?_;refine pD (lnR b a26 ts.length u26) ?_;refine xg (E2 Et Et) (M9 b a26 u26 ts _ _ _ hk26 (by first|exact F8 Me|exact hs.trans Sb)) ?_;rintro _ _ ⟨a53,u53,r53,rfl,he53,hk53,rfl⟩;refine y1 ?_ ?_<;>intro c50
 replace he53:=he53.trans (if_pos c50);subst r53;rw[if_pos c50]at hq;refine kA1 ?_;refine pD (lnR b a53 ts.tail.length u53) ?_;refine A1 Ef (E1 Et) (b3m hg b a53 u53 ts.tail _ _ hk53 (by first|exact F8 Me|exact hs.trans Sb)) Lb (λv hv hx=>?_) λv55 h55 hr55=>?_
 ·obtain⟨e,hx1,rfl,rfl⟩:=hx;rw[hx1]at hq;exact prP Tryz.f45 hq Sb
 obtain⟨x55,r55,a55,u55,hM55,⟨rfl,hw55⟩,hk55,rfl⟩:=hr55;rw[hM55,J0]at hq;refine kA1 ?_;refine pD (lnR b a55 r55.length u55) ?_;refine A1 Ef (E1 Et) (a2k b a55 u55 r55 _ _ hk55 (by first|exact F8 Me|exact hs.trans Sb)) Lb (λv hv hx=>?_) λv57 h57 hr57=>?_
 ·obtain⟨e,hx1,rfl,rfl⟩:=hx;rw[hx1]at hq;exact prP Tryz.f45 hq Sb
 obtain⟨x57,r57,a57,u57,hM57,⟨rfl,hw57⟩,hk57,rfl⟩:=hr57;rw[hM57,J0]at hq;refine xY M3 Eb λb58=>?_
 refine WL.perm (Mv.perm (bl:=[_])) ?_;refine ZZ [2,1] ?_;refine xf (E1 Ek) (L9 _ _ _) ?_;refine xY B3 Eb λb62=>?_;refine pD (lnR b a57 r57.length u57) ?_;refine A1 Ef (E2 Et Et) (Q4 b a57 u57 r57 _ _ _ _ _ hk57 (by first|exact F8 Me|exact hs.trans Sb) (Rd.ofPt rfl (by decide) Me)) Lb (λv hv hx=>?_) λv63 h63 hr63=>?_
 ·obtain⟨hx1,rfl,rfl⟩:=hx;rw[a3q hx1]at hq;exact prP Tryz.f45 hq Sb
 obtain⟨hi63,a63,u63,hk63,rfl⟩:=hr63;rw[a3s hi63]at hq;refine ZZ [0,1] ?_;refine pD (lnR b a63 r57.tail.length u63) ?_;refine A1 Ef (E1 Et) (X6 hg b a63 u63 r57.tail _ _ hk63 (by first|exact F8 Me|exact hs.trans Sb)) Lb (λv hv hx=>?_) λv65 h65 hr65=>?_
 ·obtain⟨e,hx1,rfl,rfl⟩:=hx;rw[hx1]at hq;exact prP Tryz.f45 hq Sb
 obtain⟨x65,r65,a65,u65,bl65,hM65,⟨t65,rfl,rfl,hO65⟩,hk65,rfl⟩:=hr65;refine mP ?_;rw[hM65,J0]at hq;refine kA2 ?_;exact WL.nil (mN [] (lnR b a65 r65.length u65::spR b6 (s0 2 x55 ⟨some ⟨b58,0,none⟩,1,[x57]⟩ t65)::psR z i::((nmR b58 x57::bl65)++h)) ⟨s0 2 x55 ⟨some ⟨b58,0,none⟩,1,[x57]⟩ t65,nmR b58 x57::bl65,a65,u65,r65,⟨sS1 (by decide) hw55 (Rd.ofPt rfl (by show 1<=_;decide) (qm _)) (K5 hw57) (hO65.mono (qo _ _)),hk65,hq.trans (by rw[Q8];rfl)⟩,rfl,rfl⟩);replace he53:=he53.trans (if_neg (E6 c50));subst r53;rw[if_neg (E6 c50)]at hq;refine kA1 ?_;refine xf (E1 Ek) (H5 _ _ _) ?_;refine xf (E2 Et Et) (a4d b a53 u53 ts _ _ _ Me hk53 (by first|exact F8 Me|exact hs.trans Sb)) ?_;refine kP1 [0,2,6,67] ?_
 refine D6 KKh [0,2,6] rfl (λF' h'=>∃q:Bool,(q=(isM 5 [91] ts||isM 2 [73,78,84] ts||isM 2 [66,89,84,69] ts||isM 2 [66,79,79,76] ts||isM 2 [67,72,65,78] ts||isM 2 [84,73,77,69,82] ts))/\F'=[(67,.bool q)]/\lnR b a53 ts.length u53::spR b6 B4::psR z i::h=h') ?_ ?_;refine jE ?_;refine wc ?_ ?_<;>intro c67
 have e0:isM 5 [91] ts=true:=c67;exact WC.skip (mN [(67,.bool (isM 5 [91] ts))] (lnR b a53 ts.length u53::spR b6 B4::psR z i::h) ⟨isM 5 [91] ts,by rw[e0];rfl,rfl,rfl⟩);have d0:isM 5 [91] ts=false:=c67;refine kA1 ?_;refine xf (E1 Ek) (L9 _ _ _) ?_;refine xf (E2 Et Et) (a4d b a53 u53 ts _ _ _ Me hk53 (by first|exact F8 Me|exact hs.trans Sb)) ?_;refine y1 ?_ ?_<;>intro c67
 have e1:isM 2 [73,78,84] ts=true:=c67;exact WC.skip (mN [(67,.bool (isM 2 [73,78,84] ts))] (lnR b a53 ts.length u53::spR b6 B4::psR z i::h) ⟨isM 2 [73,78,84] ts,by rw[d0,e1];rfl,rfl,rfl⟩);have d1:isM 2 [73,78,84] ts=false:=c67;refine kA1 ?_;refine xf (E1 Ek) (L9 _ _ _) ?_;refine xf (E2 Et Et) (a4d b a53 u53 ts _ _ _ Me hk53 (by first|exact F8 Me|exact hs.trans Sb)) ?_;refine y1 ?_ ?_<;>intro c67
 have e2:isM 2 [66,89,84,69] ts=true:=c67;exact WC.skip (mN [(67,.bool (isM 2 [66,89,84,69] ts))] (lnR b a53 ts.length u53::spR b6 B4::psR z i::h) ⟨isM 2 [66,89,84,69] ts,by rw[d0,d1,e2];rfl,rfl,rfl⟩);have d2:isM 2 [66,89,84,69] ts=false:=c67;refine kA1 ?_;refine xf (E1 Ek) (L9 _ _ _) ?_;refine xf (E2 Et Et) (a4d b a53 u53 ts _ _ _ Me hk53 (by first|exact F8 Me|exact hs.trans Sb)) ?_;refine y1 ?_ ?_<;>intro c67
 have e3:isM 2 [66,79,79,76] ts=true:=c67;exact WC.skip (mN [(67,.bool (isM 2 [66,79,79,76] ts))] (lnR b a53 ts.length u53::spR b6 B4::psR z i::h) ⟨isM 2 [66,79,79,76] ts,by rw[d0,d1,d2,e3];rfl,rfl,rfl⟩);have d3:isM 2 [66,79,79,76] ts=false:=c67;refine kA1 ?_;refine xf (E1 Ek) (L9 _ _ _) ?_;refine xf (E2 Et Et) (a4d b a53 u53 ts _ _ _ Me hk53 (by first|exact F8 Me|exact hs.trans Sb)) ?_;refine y1 ?_ ?_<;>intro c67
 have e4:isM 2 [67,72,65,78] ts=true:=c67;exact WC.skip (mN [(67,.bool (isM 2 [67,72,65,78] ts))] (lnR b a53 ts.length u53::spR b6 B4::psR z i::h) ⟨isM 2 [67,72,65,78] ts,by rw[d0,d1,d2,d3,e4];rfl,rfl,rfl⟩);have d4:isM 2 [67,72,65,78] ts=false:=c67;refine kA1 ?_;refine xf (E1 Ek) (L9 _ _ _) ?_;refine xf (E2 Et Et) (a4d b a53 u53 ts _ _ _ Me hk53 (by first|exact F8 Me|exact hs.trans Sb)) ?_;refine kA1 ?_;exact WL.nil (mN [(67,.bool (isM 2 [84,73,77,69,82] ts))] (lnR b a53 ts.length u53::spR b6 B4::psR z i::h) ⟨isM 2 [84,73,77,69,82] ts,by rw[d0,d1,d2,d3,d4];rfl,rfl,rfl⟩);rintro _ _ ⟨q,hqq,rfl,rfl⟩;refine A9 rfl ?_;rw[<-hqq]at hq;refine jE ?_;refine wc ?_ ?_<;>intro c67
 rw[if_pos c67]at hq;refine kA1 ?_;refine pD (lnR b a53 ts.length u53) ?_;refine A1 Ef (E1 Et) (b3m hg b a53 u53 ts _ _ hk53 (by first|exact F8 Me|exact hs.trans Sb)) Lb (λv hv hx=>?_) λv87 h87 hr87=>?_
 ·obtain⟨e,hx1,rfl,rfl⟩:=hx;rw[hx1]at hq;exact prP Tryz.f45 hq Sb
 obtain⟨x87,r87,a87,u87,hM87,⟨rfl,hw87⟩,hk87,rfl⟩:=hr87;rw[hM87,J0]at hq;refine kA2 ?_;refine xG (PO.makeFunc (E1 Et) Evs.nil) ?_;refine pD (lnR b a87 r87.length u87) ?_;refine A1 Ef (E4 Et Ek Ek Et) (c2X 89 O0 [44] 8 b a87 u87 r87 _ _ hk87 (by first|exact F8 Me|exact hs.trans Sb) (by decide) (λa c ts h hk hs=>a2k b a c ts h _ hk hs)) Lb (λv hv hx=>?_) λv91 h91 hr91=>?_
 ·obtain⟨e,hx1,rfl,rfl⟩:=hx;rw[hx1]at hq;exact prP Tryz.f45 hq Sb
 obtain⟨x91,r91,a91,u91,bl91,hM91,⟨p91,q91,rfl,hS91,hO91⟩,hk91,rfl⟩:=hr91;refine mP ?_;rw[hM91,J0]at hq;refine ZZ [2,1] ?_;refine xf (E1 Ek) (L9 _ _ _) ?_;refine pD (lnR b a91 r91.length u91) ?_;refine xg (E2 Et Et) (M9 b a91 u91 r91 _ _ _ hk91 (by first|exact F8 Me|exact hs.trans Sb)) ?_;rintro _ _ ⟨a95,u95,r95,rfl,he95,hk95,rfl⟩;refine y0 ?_ ?_<;>intro c95
 replace he95:=he95.trans (if_pos c95);subst r95;rw[if_pos c95]at hq;refine kA1 ?_;refine pD (lnR b a95 r91.tail.length u95) ?_;refine A1 Ef (E1 Et) (a1r hg b a95 u95 r91.tail _ _ hk95 (by first|exact F8 Me|exact hs.trans Sb)) Lb (λv hv hx=>?_) λv97 h97 hr97=>?_
 ·obtain⟨e,hx1,rfl,rfl⟩:=hx;rw[hx1]at hq;exact prP Tryz.f45 hq Sb
 obtain⟨x97,r97,a97,u97,bl97,hM97,⟨t97,rfl,rfl,hO97⟩,hk97,rfl⟩:=hr97;refine mP ?_;rw[hM97,J0]at hq;refine kA4 ?_;rw[<-qj bl97 bl91];exact WL.nil (mN [] (lnR b a97 r97.length u97::spR b6 (s0 3 x87 ⟨p91,q91,x91⟩ t97)::psR z i::((bl97++bl91)++h)) ⟨s0 3 x87 ⟨p91,q91,x91⟩ t97,bl97++bl91,a97,u97,r97,⟨sS1 (by decide) hw87 (hS91.mono Vl (qc _ _)) hO91 (hO97.mono (qg _ _)),hk97,hq.trans (by rw[Q8];rfl)⟩,rfl,rfl⟩);replace he95:=he95.trans (if_neg (E6 c95));subst r95;rw[if_neg (E6 c95)]at hq;exact WC.skip (mN [] (lnR b a95 r91.length u95::spR b6 (s0 1 x87 ⟨p91,q91,x91⟩ A0)::psR z i::(bl91++h)) ⟨s0 1 x87 ⟨p91,q91,x91⟩ A0,bl91,a95,u95,r91,⟨sS1 (by decide) hw87 hS91 hO91 (B6 _ _),hk95,hq.trans (by rw[Q8];rfl)⟩,rfl,rfl⟩);rw[if_neg (E6 c67)]at hq;refine WC.take (r:=psR z i) De ?_;refine Z3 ?_
 refine WC.ret (toX (.inl rfl) (c2s (h':=psR z i::([lnR b a53 ts.length u53]++h)) (.inl rfl) rfl (W6 a4R rfl rfl rfl Me rfl) (RV.tmp rfl) Vl Sb ?_));exact⟨none,i,[lnR b a53 ts.length u53],B4,hq,rfl,rfl,λ_=>⟨rfl,_,_,rfl,hk53⟩,nofun⟩;rintro _ _ ⟨s,bl,x,y,r,⟨hS,hk1,hq⟩,rfl,rfl⟩;refine A9 rfl ?_;replace hq:a2C z.R (A4 z.R n) d ts i=M1 5 [58] r i λr=>if spP (stS s)then D4 r i λi=>.ok (some (stS s),i)else .error (110,i):=hq
 rw[c3m]at hq;refine kA1 ?_;refine xf (E1 Ek) (H5 _ _ _) ?_;refine xY B3 Eb λb102=>?_
 refine pD (lnR b x r.length y) ?_;refine A1 Ef (E2 Et Et) (Q4 b x y r _ _ _ _ _ hk1 (by first|exact F8 Me|exact hs.trans Sb) (Rd.ofPt rfl (by decide) Me)) Lb (λv hv hx=>?_) λv103 h103 hr103=>?_
 ·obtain⟨hx1,rfl,rfl⟩:=hx;rw[a3q hx1]at hq;exact prP Tryz.f45 hq Sb
 obtain⟨hi103,a103,u103,hk103,rfl⟩:=hr103;rw[a3s hi103]at hq;refine ZZ [0,1] ?_;refine xf (E1 Et) (b7s hg s (hS.ok.mono ((qg _ _).trans Sb))) ?_;refine y1 ?_ ?_<;>intro c106
 have d106:spP s=false:=by simpa using c106
 rw[if_neg (E6 d106)]at hq;refine j0 ?_;refine A1 Ef Evs.nil (I7 _ _) Lb (λv hv hx=>?_) λv107 h107 hr107=>?_
 ·obtain⟨rfl,rfl⟩:=hx;exact prP Tryz.f45 hq Sb
 exact hr107.elim;have d106:spP s=true:=by simpa using c106
 rw[if_pos d106]at hq;refine ZZ [0,2] ?_;refine pP (psR z i) (lnR b a103 r.tail.length u103) ?_;refine A1 Ef (E2 Et Et) (M5 hz i b a103 u103 r.tail _ (by omega)) Lb (λv hv hx=>?_) λv110 h110 hr110=>?_
 ·obtain⟨hx1,rfl,rfl⟩:=hx;rw[N9 hx1]at hq;exact prP Tryz.f45 hq Sb
 obtain⟨hz110,rfl⟩:=hr110;rw[N8 hz110]at hq;refine ZZ [0,3,0] ?_;refine WC.ret (toX (.inl rfl) (c2s (h':=psR z (i+1)::(bl++h)) (.inl rfl) rfl (W6 a4R rfl rfl rfl Me rfl) (RV.tmp rfl) Vl Sb ?_));exact b0H hq (by omega) rfl hS rfl
end
section
open Go.Eng Go.Pc Go.Sx Go
open Go.Xp hiding B E8
open Go.Ty (Ty Vr Tok eqT tyV E9 B1 A7 I6 zeroK H3 E5)
open Go.Lx (encB C0 lexO)
open Go.Ly (Rw K7 C6)
def kvs(bp:Nat):List (List UInt8×Value):=[([83,75,73,80],.func (.func 103) #[ptV bp] #[]),([83,84,79,80],.func (.func 104) #[ptV bp] #[]),([83,69,81],.func (.func 105) #[ptV bp] #[]),([80,65,82],.func (.func 106) #[ptV bp] #[]),([80,82,73],.func (.func 107) #[ptV bp] #[]),([65,76,84],.func (.func 108) #[ptV bp] #[]),([73,70],.func (.func 109) #[ptV bp] #[]),([67,65,83,69],.func (.func 110) #[ptV bp] #[]),([87,72,73,76,69],.func (.func 111) #[ptV bp] #[]),([80,76,65,67,69,68],.func (.func 112) #[ptV bp] #[])]
theorem b0Y(bp:Nat)(h:Lr)(m:View):CT prog 46 [ptV bp] h m (λv _ h'=>∃b es ck,v=.map (some b)/\a9K es (kvs bp)/\h'=.pt b (.map es ck)::h):=by
 refine cB [0,2] func46 λ_=>?_;refine Z1 ?_;refine WL.makeMap Lb λb3=>?_
 have hM0:a9K #[] []:=rfl;refine kA1 ?_;refine xG (PO.makeFunc (E1 Et) Evs.nil) ?_;refine T7 (.inr rfl) a4L uu9 hM0 rfl Et Ek Et (λ_ _=>Up) λes1 ck1 hM1=>?_;refine kA1 ?_;refine xG (PO.makeFunc (E1 Et) Evs.nil) ?_;refine T7 (.inr rfl) a4L uu9 hM1 rfl Et Ek Et (λ_ _=>Up) λes2 ck2 hM2=>?_
 refine kA1 ?_;refine xG (PO.makeFunc (E1 Et) Evs.nil) ?_;refine T7 (.inr rfl) a4L uu9 hM2 rfl Et Ek Et (λ_ _=>Up) λes3 ck3 hM3=>?_;refine kA1 ?_;refine xG (PO.makeFunc (E1 Et) Evs.nil) ?_;refine T7 (.inr rfl) a4L uu9 hM3 rfl Et Ek Et (λ_ _=>Up) λes4 ck4 hM4=>?_
 refine kA1 ?_;refine xG (PO.makeFunc (E1 Et) Evs.nil) ?_;refine T7 (.inr rfl) a4L uu9 hM4 rfl Et Ek Et (λ_ _=>Up) λes5 ck5 hM5=>?_;refine kA1 ?_;refine xG (PO.makeFunc (E1 Et) Evs.nil) ?_;refine T7 (.inr rfl) a4L uu9 hM5 rfl Et Ek Et (λ_ _=>Up) λes6 ck6 hM6=>?_
 refine kA1 ?_;refine xG (PO.makeFunc (E1 Et) Evs.nil) ?_;refine T7 (.inr rfl) a4L uu9 hM6 rfl Et Ek Et (λ_ _=>Up) λes7 ck7 hM7=>?_;refine kA1 ?_;refine xG (PO.makeFunc (E1 Et) Evs.nil) ?_;refine T7 (.inr rfl) a4L uu9 hM7 rfl Et Ek Et (λ_ _=>Up) λes8 ck8 hM8=>?_
 refine kA1 ?_;refine xG (PO.makeFunc (E1 Et) Evs.nil) ?_;refine T7 (.inr rfl) a4L uu9 hM8 rfl Et Ek Et (λ_ _=>Up) λes9 ck9 hM9=>?_;refine kA1 ?_;refine xG (PO.makeFunc (E1 Et) Evs.nil) ?_;refine T7 (.inr rfl) a4L uu9 hM9 rfl Et Ek Et (λ_ _=>Up) λes10 ck10 hM10=>?_
 refine Z2 ?_;refine wT (.pt b3 (.map es10 ck10)::h) ?_;exact⟨b3,es10,ck10,rfl,hM10,rfl⟩
theorem b0W(bp:Nat)(h:Lr)(m:View):CX prog 46 [ptV bp] h m (λv _ h'=>∃hp',h'=hp'++h/\∃b es ck,v=.map (some b)/\a9K es (kvs bp)/\hp'=[.pt b (.map es ck)]) (λ_ _=>False):=
 CX.ofCT (CT.conv (b0Y bp h m) λ_ m' _ _ _ st ⟨b,es,ck,e1,e2,e3⟩=>⟨m',[.pt b (.map es ck)]++h,Vl,by rw[e3]at st;exact st,_,rfl,b,es,ck,e1,e2,rfl⟩)
abbrev d0A(m:View)(z:Pz)(n:Nat)(id:FuncId)(f:Int->Lt->Nat->PE Pr):Prop:=∀(d:Int)(i b:Nat)(a:Oa)(c:Nat)(ts:Lt)(h hT:Lr),Tk2 m hT a c ts->hT.Sublist h->i<z.R.length->z.R.length<=i+n+1->(0<=d/\d<=32) ->
 QrX m z id [ptV z.bp,.int .i64 d,ptV b] i b a c ts h (f d ts i) (OP m)
theorem c6j{m:View}(hg:Glob m){z:Pz}(hz:Pok m z){n:Nat}(hrec:REC m z n){s:B}{v:Value}(hv:a2b s (kvs z.bp)=some v):∃id,v=.func (.func id) #[ptV z.bp] #[]/\∃f,a3c z.R (A4 z.R n) s=some f/\d0A m z n id f:=by
 by_cases h0:s=[83,75,73,80]
 ·subst h0
  exact⟨_,(qM hv).symm,_,rfl,λd i b a c ts h _ _ _ hi _ _=>c5w hz d i b a c ts h hi⟩
 by_cases h1:s=[83,84,79,80]
 ·subst h1
  exact⟨_,(qM hv).symm,_,rfl,λd i b a c ts h _ _ _ hi _ _=>c4R hz d i b a c ts h hi⟩
 by_cases h2:s=[83,69,81]
 ·subst h2
  exact⟨_,(qM hv).symm,_,rfl,λd i b a c ts h hT=>c5Q hg hz hrec d i b a c ts h hT⟩
 by_cases h3:s=[80,65,82]
 ·subst h3
  exact⟨_,(qM hv).symm,_,rfl,λd i b a c ts h hT=>c4X hg hz hrec d i b a c ts h hT⟩
 by_cases h4:s=[80,82,73]
 ·subst h4
  exact⟨_,(qM hv).symm,_,rfl,λd i b a c ts h hT=>c7U hg hz hrec d i b a c ts h hT⟩
 by_cases h5:s=[65,76,84]
 ·subst h5
  exact⟨_,(qM hv).symm,_,rfl,λd i b a c ts h hT=>c4A hg hz hrec d i b a c ts h hT⟩
 by_cases h6:s=[73,70]
 ·subst h6
  exact⟨_,(qM hv).symm,_,rfl,λd i b a c ts h hT=>b5R hg hz hrec d i b a c ts h hT⟩
 by_cases h7:s=[67,65,83,69]
 ·subst h7
  exact⟨_,(qM hv).symm,_,rfl,λd i b a c ts h hT=>c8o hg hz hrec d i b a c ts h hT⟩
 by_cases h8:s=[87,72,73,76,69]
 ·subst h8
  exact⟨_,(qM hv).symm,_,rfl,λd i b a c ts h hT=>c5C hg hz hrec d i b a c ts h hT⟩
 by_cases h9:s=[80,76,65,67,69,68]
 ·subst h9
  exact⟨_,(qM hv).symm,_,rfl,λd i b a c ts h hT=>b9J hg hz hrec d i b a c ts h hT⟩
 exfalso;unfold kvs at hv;simp only[a2b,if_neg h0,if_neg h1,if_neg h2,if_neg h3,if_neg h4,if_neg h5,if_neg h6,if_neg h7,if_neg h8,if_neg h9]at hv;cases hv
theorem b9W{bp:Nat}{R:List Rw}{rec:Int->Bool->Nat->PE Pr}{s:B}(hv:a2b s (kvs bp)=none):a3c R rec s=none:=by
 by_cases h0:s=[83,75,73,80]
 ·subst h0
  cases hv
 by_cases h1:s=[83,84,79,80]
 ·subst h1
  cases hv
 by_cases h2:s=[83,69,81]
 ·subst h2
  cases hv
 by_cases h3:s=[80,65,82]
 ·subst h3
  cases hv
 by_cases h4:s=[80,82,73]
 ·subst h4
  cases hv
 by_cases h5:s=[65,76,84]
 ·subst h5
  cases hv
 by_cases h6:s=[73,70]
 ·subst h6
  cases hv
 by_cases h7:s=[67,65,83,69]
 ·subst h7
  cases hv
 by_cases h8:s=[87,72,73,76,69]
 ·subst h8
  cases hv
 by_cases h9:s=[80,76,65,67,69,68]
 ·subst h9
  cases hv
 unfold a3c;simp only[if_neg h0,if_neg h1,if_neg h2,if_neg h3,if_neg h4,if_neg h5,if_neg h6,if_neg h7,if_neg h8,if_neg h9]
theorem c2B{m:View}(hg:Glob m){z:Pz}(hz:Pok m z)(i:Nat)(d:Int)(h:Lr)(hi:i=z.R.length):CX prog 26 [ptV z.bp,.int .i64 d] (psR z i::h) m
 (λ_ _ _=>False) (λv h'=>v=wrV 110/\h'=psR z i::h):=
 (a4z hg hz i d h (by omega)).mono (λ_ _ _ ⟨_,_,_,_,hM,_⟩=>absurd (a1y hz hM).1.1 (by omega)) λ_ _ ⟨e,j,hM,e1,e2⟩=>by
  rw[a2t (by omega)]at hM;cases hM;exact⟨e1,e2⟩
theorem d0i{m:View}(hg:Glob m){z:Pz}(hz:Pok m z):REC m z 0:=by
 intro i d top h hi hf hd;have hq:A4 z.R 0 d top i=.error (110,i):=rfl;refine xB [0,1,2,6] func25 λ_=>?_;refine xW λb6=>?_
 refine ZZ [0,2] ?_;refine pD (psR z i) ?_;refine A1 Ef (E2 Et Et) (c2B hg hz i d _ (by omega)) Lb (λv hv hx=>?_) λv14 h14 hr14=>?_
 ·obtain⟨rfl,rfl⟩:=hx
  exact prP Tryz.f25 hq Sb
 exact hr14.elim
theorem d0n{m:View}(hg:Glob m){z:Pz}(hz:Pok m z){n:Nat}(hrec:REC m z n):REC m z (n+1):=by
 intro i d top h hi hf hd;have hR:=hz.ok.1;have hq:A4 z.R (n+1) d top i=a1k z.R d i λts=>J8 (a2C z.R (A4 z.R n) d ts i) λso i=>match so with
  |some s=>J8 (A4 z.R n d top i) λx i=>.ok (prM 18 [] A0 [] [] B0 [] [x] [] s,i)
  |none=>a1R z.R (A4 z.R n) d top ts i:=rfl
 refine xB [0,1,2,6,7,8,9,10,11,22,66] func25 λ_=>?_;refine xW λb6=>?_
 refine ZZ [0,2] ?_;refine pD (psR z i) ?_;refine A1 Ef (E2 Et Et) (a4z hg hz i _ _ (by omega)) Lb (λv hv hx=>?_) λv14 h14 hr14=>?_
 ·obtain⟨e,j,hx1,rfl,rfl⟩:=hx;(first|rw[hx1]at hq|rw[J3 hx1]at hq);exact prP Tryz.f25 hq Sb
 obtain⟨r14,b14,a14,u14,hM14,rfl,hk14,rfl⟩:=hr14;have ho14:=a1y hz hM14;rw[a3N hM14]at hq;refine ZZ [1,3] ?_;refine pP (psR z i) (lnR b14 a14 r14.length u14) ?_;refine A1 Ef (E3 Et Et Et) (c4G hg hz hrec d i b14 a14 u14 r14 _ _ hk14 (F8 Me) (by omega) (by omega) (by omega)) Lb (λv hv hx=>?_) λv19 h19 hr19=>?_
 ·obtain⟨e,j,hx1,rfl,rfl⟩:=hx;(first|rw[hx1]at hq|rw[J3 hx1]at hq);exact prP Tryz.f25 hq Sb
 obtain⟨so,j19,X19,s19,hM19,rfl,rfl,hN,hS⟩:=hr19;refine mP ?_;rw[hM19,S0]at hq;refine kA3 ?_;refine xW λb8=>?_
 refine ZZ [2,1,0] ?_;refine wc ?_ ?_<;>intro c22
 obtain⟨s',rfl⟩:=z6.1 c22;obtain⟨hj19,hst19,hS19⟩:=hS s' rfl;dsimp only at hq;refine jE ?_;refine WC.drop (h':=spR b8 s19::psR z j19::prR b6 (p0 0 [] A0 A2 A2 B0)::(X19++h)) Sb ?_;refine WC.take (r:=psR z j19) De ?_;refine F4 [4,5] (.op 0 (.op 1 (.op 2 (.op 3 (.op 4 (.op 5 .nil)))))) [6,7] _ [_] C9 (λ_ _ _ _ _ h=>h) [] (by kernel_rfl) ?_;refine kA4 ?_;refine R7 rfl rfl Ef (E3 Et Et Et) (λfr=>c7D hrec j19 d top _ (by omega) (by omega) (by omega)) Lb (λfr v hv hx=>?_) λv27 h27 hr27=>?_
 ·obtain⟨e,j2,hx1,rfl,rfl⟩:=hx
  rw[hx1]at hq;exact prP Tryz.f25 hq ((a3e Sb fr).cons_cons _)
 obtain⟨p27,j27,bl27,hM27,hj27,rfl,hO27,rfl⟩:=hr27;refine sB rfl U0 λb28=>?_;refine a0V (H:=psR z j27::prR b28 p27::spR b8 s19::prR b6 (p0 0 [] A0 A2 A2 B0)::(bl27++(X19++h))) rfl ((qF _ _ _).trans (((a0o bl27 [_,_] (X19++h)).cons _).cons _)) ?_;refine Z2 ?_;refine xT (psR z j27::(prR b28 p27::(bl27++(X19++h)))) (h1:=cA Q3) ?_;rw[hM27,S0]at hq;exact⟨_,_,prR b28 p27::(bl27++X19),hq,⟨by omega,hj27.2⟩,⟨.mk 18 [] A0 A2 A2 B0 none 0 [] (some ⟨b28,0,none⟩) 1 [p27] A2 s19,rfl,hst19▸J5 _,a1g (by decide) (qi _) (B6 _ _) (B9 _ _) (B9 _ _) (P0 _ _) (T8 _ _) ⟨Rd.ofPt rfl (by show 1<=_;decide) (qm _),K5 (hO27.mono ((qg _ _).cons _))⟩ (P5 _ _) (hS19.mono ((qc _ _).cons _))⟩,by rw[qN,qj]⟩
 obtain rfl:so=none:=by cases so with|none=>rfl|some _=>cases c22
 obtain⟨hji,a2,c2,rfl,hk2⟩:=hN rfl;obtain rfl:i=j19:=hji.symm;dsimp only at hq;have hne:=c6g hz hM14;obtain⟨t,ht⟩:∃t,t=r14.getD 0 zeroK:=⟨_,rfl⟩;have hel:r14[0]?=some t:=by rw[ht,ql,qk hne];rfl
 have hrd:=hk2.k.rd;refine Z0 ?_;refine F4 [1,9] (.op 0 (.op 2 (.op 3 (.op 4 (.op 5 (.op 6 (.op 7 (.op 8 (.op 1 (.op 9 (.op 10 (.op 11 (.op 12 .nil))))))))))))) [13,14] _ [] C9 (λ_ _ _ _ _ h=>h) [12] (by kernel_rfl) ?_;refine kA5 ?_;refine yG rfl (D7 B3.und B3.size B3.posz (Ev.tmp rfl) Ek Rr rfl (q:=0) (by omega)) ?_;refine kA2 ?_;refine R7 rfl rfl Ef (E1 Et) (λfr=>b0W z.bp _ m) Lb (λfr v hv hx=>?_) λv32 h32 hr32=>?_
 ·exact hx.elim
 obtain⟨b32,es32,ck32,rfl,hM32,rfl⟩:=hr32;refine b2O rfl rfl (λfr=>b6Q a4L uu9 rfl hM32 Et Et (qE _ Me)) Lb ?_;refine kA1 ?_;refine yG rfl (PO.extract Et rfl) ?_;refine yG rfl (PO.extract Et rfl) ?_;refine nS ?_;refine ZZ [2,3] ?_;refine zG (λhc=>PO.nilCheck (Eg hc)) ?_;refine kA2 ?_;refine C2 (GU.t rfl rfl) (λhc=>D7 B3.und B3.size B3.posz (Eg hc) Ek Rr rfl (q:=0) (by omega)) Lb ?_;refine zG (λhc=>D0 C7 rfl (qf rfl) A7 (qu _) Rr (by assumption) (Eg hc)) ?_;refine zG (λhc=>D2 a2H rfl A7 Rr (Eg hc) (by assumption) rfl) ?_;refine kA6 ?_;refine zG (λhc=>PO.nilCheck (Eg hc)) ?_;refine kA2 ?_;refine C2 (a4M rfl rfl) (λhc=>D7 B3.und B3.size B3.posz (Eg hc) Ek Rr rfl (q:=0) (by omega)) Lb ?_;refine zG (λhc=>D0 C7 rfl (qf rfl) A7 (qu _) Rr (by assumption) (Eg hc)) ?_
 refine zG (λhc=>D2 uu9 rfl A7 Rr (Eg hc) (by assumption) rfl) ?_;refine zG (λhc=>P2 (Eg hc) Ek) ?_;refine zG (λhc=>a2T hc rfl rfl) ?_;refine y1 ?_ ?_<;>intro c66
 have d66:(∃v,a2b t.text (kvs z.bp)=some v)/\t.kind=2/\(top=true\/t.text≠[80,76,65,67,69,68]):=by simp only[qa,qv,qU,qK,qW,ne_eq]at c66;exact⟨z6.1 c66.1.1,c66.1.2,c66.2⟩
 obtain⟨⟨v,hv⟩,hc⟩:=d66;obtain⟨id,rfl,f,hf2,hQ⟩:=c6j hg hz hrec hv;rw[b8X hel hf2 hc]at hq;rw[hv];refine kA5 ?_;refine xG (S4 B3.und B3.size Et Ek (l:=1) rfl (by omega)) ?_;refine kA3 ?_;rw[<-zg];refine ZZ [0,3] ?_;refine pP (psR z i) (lnR b14 (sl1 a2 1 c2 4) r14.tail.length (c2-1)) ?_;refine A1 (Ev.tmp rfl) (E2 (Ev.tmp rfl) (Ev.tmp rfl)) (hQ d i b14 _ _ r14.tail _ _ (hk2.tail hne) (F8 Me) (by omega) (by omega) (by omega)) Lb (λv hv hx=>?_) λv78 h78 hr78=>?_
 ·obtain⟨e,j,hx1,rfl,rfl⟩:=hx;(first|rw[hx1]at hq|rw[J3 hx1]at hq);exact prP Tryz.f25 hq Sb
 obtain⟨x78,j78,bl78,hM78,hj78,⟨p78,rfl,rfl,hO78⟩,rfl⟩:=hr78;refine mP ?_;rw[hM78]at hq;refine Z1 ?_;refine xT (psR z j78::(bl78++h)) (h1:=cA Q3) ?_;exact⟨_,_,bl78,hq,hj78,⟨p78,rfl,rfl,hO78⟩,rfl⟩;have d66:a3c z.R (A4 z.R n) t.text=none\/¬(t.kind=2/\(top=true\/t.text≠[80,76,65,67,69,68])):=by
  cases hv:a2b t.text (kvs z.bp)with
  |none=>exact .inl (b9W hv)
  |some v=>
   refine .inr λq=>?_;rw[hv]at c66;have:((((some v).isSome&&(t.kind==2))&&(top||!(t.text==[80,76,65,67,69,68]))):Bool)=true:=by simp only[qa,qv,qU,qK,qW,ne_eq];exact⟨⟨rfl,q.1⟩,q.2⟩
   exact absurd (this.symm.trans c66) (by decide)
 rw[b5p hel d66]at hq;refine ZZ [0,3] ?_;refine pP (psR z i) (lnR b14 a2 r14.length c2) ?_;refine A1 Ef (E3 Et Et Et) (b9i hg hz hrec d i b14 a2 c2 r14 _ _ hk2 (F8 Me) (by omega) (by omega) (by omega) hne) Lb (λv hv hx=>?_) λv82 h82 hr82=>?_
 ·obtain⟨e,j,hx1,rfl,rfl⟩:=hx;(first|rw[hx1]at hq|rw[J3 hx1]at hq);exact prP Tryz.f25 hq Sb
 obtain⟨x82,j82,bl82,hM82,hj82,⟨p82,rfl,rfl,hO82⟩,rfl⟩:=hr82;refine mP ?_;rw[hM82]at hq;refine Z1 ?_;refine xT (psR z j82::(bl82++h)) (h1:=cA Q3) ?_;exact⟨_,_,bl82,hq,hj82,⟨p82,rfl,rfl,hO82⟩,rfl⟩
theorem c9E{m:View}(hg:Glob m){z:Pz}(hz:Pok m z):∀n,REC m z n
 |0=>d0i hg hz
 |n+1=>d0n hg hz (c9E hg hz n)
end
end Go.Proofs.YtgcjpahhljmlmaaGreatDoor
namespace Go.Proofs.YtgcjpahhljmlmaaGreatDoor.Ly7
open Go.Proofs.Tryz
section
open Go.Eng Go.Ly Go
theorem b0E(l:B)(c:UInt8)(h:Lr)(m:View):CT prog 86 [str l,.int .u8 c.toNat] h m (A5 h (.int .i64 (Lib.indexByte l c))):=
 CT.ofCalls call86 λw _=>by
  have:=Tryz.strings_IndexByte ⟨l.toArray⟩ c.toNat w;rw[show(c.toNat:Int).toNat.toUInt8=c by simp]at this;exact this
theorem b6k(c:UInt8)(h:Lr)(m:View):CT prog 44 [.int .u8 c.toNat] h m (A5 h (.bool (okB c))):=by
 refine cB [0,2] func44 λ_=>?_;refine ZZ [1,7,0] ?_;refine wT h ?_;exact⟨rfl,rfl⟩
theorem c2t{s:B}(h0:s≠[]):∃c,s[s.length-1]?=some c/\a8y s=b1s.contains c:=by
 refine⟨s.getLast h0,?_,?_⟩
 ·rw[<-List.getLast?_eq_getElem?,List.getLast?_eq_some_getLast h0]
 ·unfold a8y
  rw[List.getLast?_eq_some_getLast h0]
theorem b3o(s:B)(h0:s≠[])(hs:s.length<=9223372036854775807)(h:Lr)(m:View):CT prog 43 [str s] h m (A5 h (.bool (a8y s))):=by
 obtain⟨c,hc,he⟩:=c2t h0;have hp:0<s.length:=zR.2 h0;refine cB [0,2] func43 λ_=>?_;refine ZZ [1,2] ?_;refine xG (G0 uu9 Et) ?_;refine xG (P3 Et Ek (by omega)) ?_;refine WL.val (v':=.int .i64 ((s.length-1:Nat):Int)) (congrArg (Value.int .i64) (by omega)) ?_;refine xG (F3 uu9 Et Et rfl (by assumption)) ?_;refine xf (E2 Ek Et) (CT.argsE rfl (b0E b1s c _ _)) ?_;refine Z2 ?_;refine wT h ?_;exact⟨by rw[he,<-b3X],rfl⟩
theorem c4h(s:B)(h:Lr)(m:View)(hs:s.length<=9223372036854775807):CT prog 41 [str s,str [32]] h m (A5 h (str (Lib.trimB s 32))):=
 ⟨call41,λw st=>Calls.mono (Tryz.strings_Trim_one ⟨s.toArray⟩ 32 (by decide) w hs) (by
  rintro e w' ⟨rfl,hw⟩;rcases hw with rfl|rfl
  ·exact⟨_,m,h,rfl,Vl,st,rfl,rfl⟩
  ·exact⟨_,m,h,rfl,Vl,st.drew,rfl,rfl⟩)⟩
theorem c2d{m:View}(hg:Glob m)(s:B)(hs:s.length<=140737488355328)(h:Lr):CT prog 23 [str s] h m (A5 h (.bool (validP s))):=by
 have hs':s.length<=140737488355328:=by omega
 have hs2:s.length<=9223372036854775807:=by omega
 have hd:∀k,k<s.length->s[k]?=some (s.getD k 0):=λk hi=>by rw[ql,qk hi];rfl
 refine cB [0,2,3,24,26,27,28,34] func23 λ_=>?_;refine ZZ [1,1] ?_;refine xG (H0 Et Ek) ?_;refine kA2 ?_;refine zG (λhc=>G0 uu9 (Eg hc)) ?_;refine kA4 ?_;refine A3 (GU.f rfl rfl) (λhc=>⟨Ef,(E2 (Eg hc) Ek),c4h s _ _ hs2⟩) Lb ?_;refine kA1 ?_;refine zG (λhc=>P2 (Eg hc) (Eg hc)) ?_;refine kA3 ?_;refine A3 (GU.f rfl rfl) (λhc=>⟨Ef,(E2 (Eg hc) Ek),a1U hg s [45,45] (by simp at hc;omega) _⟩) Lb ?_;refine kA3 ?_;refine A3 (GU.f rfl rfl) (λhc=>⟨Ef,(E1 (Eg hc)),b3o s (by intro e;subst e;simp at hc) hs2 _ _⟩) Lb ?_;refine y1 ?_ ?_<;>intro c24
 have hb:b8x s=true:=c24;refine Z1 ?_;refine wT h ?_;exact⟨by unfold validP;rw[hb];rfl,rfl⟩;have hb:b8x s=false:=c24;have hv:validP s=s.all okB:=by unfold validP;rw[hb];rfl
 refine ZZ [0,1] ?_;refine xG (G0 uu9 Et) ?_;refine Z1 ?_;refine lI [0,26] (λμ F' h'=>∃k:Nat,(k<=s.length/\s.all okB=(s.drop k).all okB)/\s.length-k=μ/\F'=[(27,.int .i64 k)]/\h=h') (s.length-0) [(27,.int .i64 0)] h ⟨0,⟨by omega,rfl⟩,rfl,rfl,rfl⟩ ?_;rintro _ _ _ ⟨k,⟨hk,hJ⟩,rfl,rfl,rfl⟩;refine A9 rfl ?_;refine y4 ?_ ?_<;>intro c28
 obtain⟨c,hc⟩:=A8 (l:=s) (k:=k) (by omega);have hJ:s.all okB=(okB c&&(s.drop (k+1)).all okB):=by rw[hJ,P9 hc];rfl
 refine ZZ [0,2,2] ?_;refine xG (F3 uu9 Et Et rfl (by assumption)) ?_;refine xf (E1 Et) (b6k _ _ _) ?_;refine y1 ?_ ?_<;>intro c34
 have hn:okB c=false:=by simpa using c34
 refine Z1 ?_;refine wT h ?_;exact⟨by rw[hv,hJ,hn];rfl,rfl⟩;have hn:okB c=true:=by simpa using c34
 refine ZZ [0,2] ?_;exact WL.nil (lN (s.length-(k+1)) [(27,.int .i64 (k+1))] h ⟨k+1,⟨by omega,by rw[hJ,hn];rfl⟩,rfl,rfl,rfl⟩);refine ZZ [0,1,0] ?_;refine wT h ?_;exact⟨by rw[hv,hJ,qb (by omega)];rfl,rfl⟩
theorem may_ct{m:View}(hg:Glob m)(a:Oa)(n c:Nat)(l:List Rw)(h:Lr)(hr:Rd m h a n c 3 (fl K7 l))(hs:∀x∈l,x.text.length<=140737488355328):CT prog 9 [.slice a n c] h m (A5 h (.bool (mayP l))):=by
 have hl:=hr.lenF C6 (by decide);have hmx:=hr.mx;have hle:=hr.le;subst hl;refine cB [0,2,3,4,5,7,10,11,12,13,14,44] func9 λ_=>?_;refine ZZ [1,3,0] ?_;refine wD ?_ ?_<;>intro c10
 refine Z1 ?_;refine wT h ?_;exact⟨by unfold mayP;rw[if_pos c10],rfl⟩;have hm:mayP l=b0X 0 (-1) 0 l:=by unfold mayP;rw[if_neg c10]
 refine ZZ [0,3,3,0] ?_;refine lI [11,12] (λμ F' h'=>∃k:Nat,∃no:Int,∃dp:Int,∃size:Int,((k<=l.length/\(-1<=dp/\dp<=32)/\(0<=size/\size<=k*321))/\mayP l=b0X no dp size (l.drop k))/\l.length-k=μ/\F'=[(3,.int .i64 no),(4,.int .i64 dp),(5,.int .i64 size),(13,.int .i64 k)]/\h=h') (l.length-0) [(3,.int .i64 0),(4,.int .i64 (-1)),(5,.int .i64 0),(13,.int .i64 0)] h ⟨0,0,-1,0,⟨⟨by omega,by omega,by omega⟩,hm⟩,rfl,rfl,rfl⟩ ?_;rintro _ _ _ ⟨k,no,dp,size,⟨⟨hk,hdp,hsz⟩,hJ⟩,rfl,rfl,rfl⟩;refine A9 rfl ?_;refine y4 ?_ ?_<;>intro c14
 obtain⟨x,hx⟩:=A8 (l:=l) (k:=k) (by omega);have hxs:=hs x (qe hx);rw[b21 hx]at hJ;refine ZZ [0,2] ?_;refine xW λb7=>?_
 refine ZZ [1,12] ?_;refine kA6 ?_;refine C2 (GU.f rfl rfl) (λhc=>K3 (Eg hc) Ek (by first|omega|(simp at hc;omega))) Lb ?_;refine zG (λhc=>PO.min (Eg hc) Ek) ?_;refine kA5 ?_;refine A3 (GU.f rfl rfl) (λhc=>⟨Ef,(E1 (Eg hc)),c2d hg x.text hxs _⟩) Lb ?_;refine y2 ?_ ?_<;>intro c44
 have hb:b0S no dp x=true:=c44;rw[if_pos hb]at hJ;refine Z1 ?_;refine wT h ?_;exact⟨by rw[hJ],rfl⟩;have hb:b0S no dp x=false:=c44;rw[hb]at hJ;obtain⟨h1,h2,h3,h4,h5,h6⟩:=b2X hb;have h7:=(validP_spec h6).2.1;refine Z0 ?_;refine dS [] (.op 0 (.op 1 (.op 2 (.op 3 (.op 4 (.op 5 (.op 6 (.op 7 (.op 8 (.op 9 (.op 10 (.op 11 (.op 12 (.op 13 (.op 14 (.op 15 .nil)))))))))))))))) [16] C9 ?_;refine kA7 ?_;refine yG rfl (a6G Ek Et (by omega)) ?_;refine yG rfl (K3 Et Et (by omega)) ?_;refine kA2 ?_;refine yG rfl (G0 uu9 Et) ?_;refine yG rfl (K3 Et Et (by omega)) ?_;refine yG rfl (K3 Et Ek (by omega)) ?_;refine yG rfl (PO.assign Et) ?_;refine yG rfl (PO.assign Et) ?_;refine nS ?_;refine ZZ [1,2] ?_
 exact WL.nil (lN (l.length-(k+1)) [(3,.int .i64 (x.no)),(4,.int .i64 (x.depth)),(5,.int .i64 (size+2*x.depth+x.text.length+1)),(13,.int .i64 (k+1))] h ⟨k+1,x.no,x.depth,size+2*x.depth+x.text.length+1,⟨⟨by omega,by omega,by omega⟩,hJ⟩,rfl,rfl,rfl⟩);rw[qb (by omega)]at hJ;refine ZZ [0,3,0] ?_;refine wT h ?_;exact⟨by rw[hJ];rfl,rfl⟩
end
end Go.Proofs.YtgcjpahhljmlmaaGreatDoor.Ly7
namespace Go.Proofs.YtgcjpahhljmlmaaGreatDoor
open Go.Proofs.Tryz
section
open Go.Eng Go.Pc Go.Sx Go
open Go.Xp hiding B E8
open Go.Ty (Ty Vr Tok eqT tyV E9 B1 A7 I6 zeroK H3 E5)
open Go.Lx (encB C0 lexO)
open Go.Ly (Rw K7 C6 mayP)
abbrev erR(b:Nat)(e:Int):Res:=.pt b (.cells [Value.int .i64 e].toArray 47 (0,0))
abbrev zP:Pr:=p0 0 [] A0 A2 A2 B0
theorem c5E(b0 b1:Nat)(h:Lr)(m:View):b0R prog 24 [ptV b0,ptV b1] .returning m h h:=by
 refine a8H func24 rfl rfl ntmps24 Lb rfl Lb Lb (b4u rfl) rfl ?_;refine kA1 ?_;refine xG (a9t c1V Et rfl) ?_;refine kQ0 [0,1,2,7] ?_;refine wc ?_ ?_<;>intro c7
 cases c7;refine WC.skip (a8F (h2:=h) (.inr rfl) rfl Sb)
theorem c5e(b0 b1:Nat)(h:Lr)(m:View)(x:Pr)(k e:Int):b0R prog 24 [ptV b0,ptV b1] (.panicking [{ v:=wrV e,recovered:=false }]) m (prR b0 x::erR b1 k::h) (prR b0 zP::erR b1 e::h):=by
 refine a8H func24 rfl rfl ntmps24 Lb rfl Lb Lb b4z (a9s _) ?_;refine kA1 ?_;refine xG (a9m c1V Et rfl) ?_;refine kQ0 [0,1,2,7] ?_;refine wc ?_ ?_<;>intro c7
 refine kA1 ?_;refine xG (a4H c6m Et) ?_;refine kA3 ?_;refine xW λb3=>?_;refine kQ2 [0,1,3,4] ?_;refine kQ2 [0,1,3,14] ?_;refine wc ?_ ?_<;>intro c14
 cases c14;refine WC.skip (kp [0,1,3] ?_);refine jE ?_;refine WC.take (r:=.pt b0 _) De ?_;refine F4 [3] (.op 0 (.op 1 (.op 2 (.op 3 .nil)))) [4] _ [_] C9 (λ_ _ _ _ _ h=>absurd h.1 (by rintro(q|q)<;>cases q)) [] (by kernel_rfl) ?_;refine yG rfl (PO.build Q3 rfl rfl rfl EvP.nil rfl) ?_;refine kA2 ?_;refine SR.store rfl rfl rfl Et Et rfl rfl rfl rfl Up ?_;refine nS ?_;refine kA1 ?_;refine WL.nil (a8F (h2:=prR b0 zP::erR b1 e::h) (.inr rfl) rfl Sb);cases c7
theorem b6e(x y z:Res)(h:Lr):(x::y::z::h).Perm (z::y::x::h):=(qF _ _ _).trans (((qF _ _ _).cons _).trans (qF _ _ _))
abbrev c9r(m:View)(z:Pz)(h:Lr)(v:Value)(h':Lr):Prop:=
 ∃x bl j e,v=.tuple #[prV x,.int .i64 e]/\h'=psR z j::(bl++h)/\POk m bl x/\((e=0/\a4X z.R=.ok (stP x,j))\/(e≠0/\x=zP/\a4X z.R=.error (e,j)))
theorem c8D{m:View}(hg:Glob m){z:Pz}(hz:Pok m z)(h:Lr):CT prog 10 [ptV z.bp] (psR z 0::h) m (λv _ h'=>c9r m z h v h'):=by
 have hR:=hz.ok.1;have hrd:=hz.rd.mono Vl (zH h);have hq:a4X z.R=J8 (A4 z.R z.R.length 0 true 0) λx i=>match z.R[i]? with
  |none=>.ok (x,i)
  |some y=>.error (if(lexO y.text).2.2≠0 then(lexO y.text).2.2 else 110,i):=rfl
 have key:∀(n:Cx)(F:Fm)(e:Int)(j:Nat)(y:Int)(p:Pr)(b2 b3:Nat),n.ds=[b0N 24 [ptV b2,ptV b3]]->Go.Eng.look F 2=some (ptV b2)->Go.Eng.look F 3=some (ptV b3)->a4X z.R=.error (e,j)->∀a w,Fr n F a->St m (psR z j::erR b3 y::prR b2 p::h) w ->
  bodyPostD prog Tryz.f10 (RQ m (λv _ h'=>c9r m z h v h')) (.panic [{ v:=wrV e,recovered:=false }]) a w:=λn F e j y p b2 b3 hds e1 e2 hA a w ha hs=>
  c8S (P:=prog) (fn:=Tryz.f10) (h':=psR z j::h) hds call24 (c5e b2 b3 (psR z j::h) m p y e) rfl (W6 Q3 rfl rfl e1 Me rfl) (a0q b6H rfl e2 Me rfl) Vl Sb
   ⟨zP,[],j,e,rfl,rfl,a9X _ _ (by decide),.inr ⟨c8r e j hA,rfl,hA⟩⟩ a w ha (hs.perm (b6e _ _ _ _))
 refine CT.bodyD call10 func10 rfl ntmps10 Lb rfl ?_;refine j0 ?_;refine xW λb2=>?_;refine xW λb3=>?_
 refine wn [0,2,3] ?_;refine jE ?_;refine b03 rfl λops hG=>?_;refine WY.po rfl (PO.makeFunc Evs.nil (E2 Et Et)) Lb ?_;refine WY.defer rfl Et ?_;refine kp [0,2,3] ?_;refine kA1 ?_;refine pD (psR z 0) ?_;refine A1 Ef (E3 Et Ek Ek) (c9E hg hz z.R.length 0 0 true _ (by omega) (by omega) (by decide)) Lb (λv hv hx=>?_) λv6 h6 hr6=>?_
 ·obtain⟨e,j,hx1,rfl,rfl⟩:=hx
  rw[hx1]at hq;exact key _ _ e j 0 zP b2 b3 rfl rfl rfl hq
 obtain⟨x6,j6,bl6,hM6,hj6,⟨p6,rfl,rfl,hO6⟩,rfl⟩:=hr6;refine mP ?_;rw[hM6,S0]at hq;refine kA1 ?_;refine wn [0,2,3] ?_;refine jE ?_;refine WC.noPan ?_;refine dS [] (.op 0 (.op 1 (.op 2 (.op 3 (.op 4 (.op 5 (.op 6 (.op 7 (.op 8 .nil))))))))) [9] C9 ?_;refine kA8 ?_;refine yG rfl (R8 a6b Et) ?_;refine nS ?_;refine kQ1 [0,2,3,16] ?_;refine wD ?_ ?_<;>intro c16
 obtain⟨y,hel⟩:=A8 (l:=z.R) (k:=j6) (by omega);rw[hel]at hq;dsimp only at hq;have hop:V3 z.R y.depth j6=if(lexO y.text).2.2≠0 then .error ((lexO y.text).2.2,j6)else .ok (lexO y.text).1:=by unfold V3;rw[hel];simp only[ne_eq,not_true_eq_false,if_false]
 refine jE ?_;refine c1m [] (.op 0 (.op 1 (.op 2 (.op 3 (.op 4 (.op 5 (.op 6 (.op 7 (.op 8 (.op 9 (.op 10 (.op 11 .nil)))))))))))) [12] _ [] C9 (by kernel_rfl) ?_;refine kA9 ?_;refine yG rfl (D7 V1.und V1.size V1.posz (Ev.tmp rfl) (Ev.tmp rfl) Rr rfl (q:=j6) (by omega)) ?_;refine kA2 ?_;refine nS ?_;refine pD (psR z j6) ?_;refine A1 Ef (E2 Et Et) (a4z hg hz j6 y.depth _ (by omega)) Lb (λv hv hx=>?_) λv29 h29 hr29=>?_
 ·obtain⟨e,j,hx1,rfl,rfl⟩:=hx
  rw[hop]at hx1;split at hx1
  ·rename_i hl
   cases hx1;rw[if_pos hl]at hq;exact λa w ha hs=>key _ _ _ _ 0 p6 b2 b3 rfl rfl rfl hq a w ha (hs.sub Sb)
  ·cases hx1
 obtain⟨ts29,b29,a29,c29,hM29,rfl,hk29,rfl⟩:=hr29;refine kQ0 [2,3] ?_;refine A1 Ef Evs.nil (I7 _ _) Lb (λv hv hx=>?_) λv30 h30 hr30=>?_
 ·obtain⟨rfl,rfl⟩:=hx
  rw[hop]at hM29;split at hM29
  ·cases hM29
  ·rename_i hl
   rw[if_neg hl]at hq;exact λa w ha hs=>key _ _ _ _ 0 p6 b2 b3 rfl rfl rfl hq a w ha (hs.sub Sb)
 exact hr30.elim;rw[qS (by omega)]at hq;dsimp only at hq;refine kQ0 [2,3] ?_;refine kQ3 [2,3] ?_;refine WC.ret (c8V (h':=psR z j6::(bl6++h)) (.inl rfl) rfl call24 (c5E _ _ _ _) rfl (W6 Q3 rfl rfl rfl Me rfl) (a0q b6H rfl rfl Me rfl) Vl Sb ?_);exact⟨p6,bl6,j6,0,rfl,rfl,hO6,.inl ⟨rfl,hq⟩⟩
abbrev c9d(m:View)(R:List Rw)(h:Lr)(v:Value)(h':Lr):Prop:=
 ∃x bl,v=.tuple #[prV x,.int .i64 ((S3 R).2.1:Nat),.int .i64 (S3 R).2.2]/\stP x=(S3 R).1/\POk m bl x/\h'=bl++h
theorem b4V{m:View}(hg:Glob m)(ra:Oa)(rc:Nat)(R:List Rw)(h:Lr)(hr:Rd m [] ra R.length rc 3 (fl K7 R))(ht:∀x∈R,x.text.length<=140737488355328) :
 CT prog 4 [.slice ra R.length rc] h m (λv _ h'=>c9d m R h v h'):=by
 have hq:S3 R=if mayP R then(match a4X R with
  | .ok (x,_)=>(x,0,0)
  | .error (e,i)=>(prM 0 [] A0 [] [] B0 [] [] [] B4,i,e))else(prM 0 [] A0 [] [] B0 [] [] [] B4,0,2):=rfl
 refine cB [0,2,3,4,5,8,19] func4 λ_=>?_;refine xW λb2=>?_
 refine ZZ [2,1] ?_;refine xf (E1 Et) (Ly7.may_ct hg ra _ rc R _ (hr.mono Vl (zH _)) ht) ?_;refine y1 ?_ ?_<;>intro c8
 have d8:mayP R=false:=by simpa using c8
 rw[if_neg (E6 d8)]at hq;refine Z4 ?_;refine w3 h (h1:=cA Q3) ?_;exact⟨zP,[],by rw[hq];rfl,by rw[hq];exact J5 _,a9X _ _ (by decide),rfl⟩;have d8:mayP R=true:=by simpa using c8
 rw[if_pos d8]at hq;refine ZZ [0,2] ?_;refine xX λb12=>?_
 refine ZZ [1,1] ?_;refine pD (psR ⟨b12,ra,rc,R⟩ 0) ?_;refine xg (E1 Et) (c8D hg (z:=⟨b12,ra,rc,R⟩) (Pok.of hr d8) _) ?_;rintro _ _ ⟨x15,bl15,j15,e15,rfl,rfl,hO15,hA15⟩;refine mP ?_;refine ZZ [5,2,0] ?_;refine wN ?_ ?_<;>intro c19
 obtain⟨rfl,hA⟩:x15=zP/\a4X R=.error (e15,j15):=hA15.elim (λq=>absurd q.1 c19) λq=>q.2
 rw[hA]at hq;dsimp only at hq;refine jE ?_;refine WC.take (r:=.pt b2 _) De ?_;refine F4 [6] (.op 0 (.op 1 (.op 2 (.op 3 (.op 4 (.op 5 (.op 6 .nil))))))) [7,8] _ [_] C9 (λ_ _ _ _ _ h=>h) [5] (by kernel_rfl) ?_;refine yG rfl (PO.build Q3 rfl rfl rfl EvP.nil rfl) ?_;refine kA5 ?_;refine SR.store rfl rfl rfl Et Et rfl rfl rfl rfl Up ?_;refine nS ?_;refine Z2 ?_;refine w3 h (h1:=cA Q3) ?_;exact⟨zP,[],by rw[hq];rfl,by rw[hq];exact J5 _,a9X _ _ (by decide),rfl⟩;have hA:a4X R=.ok (stP x15,j15):=hA15.elim (λq=>q.2) λq=>absurd c19 q.1
 rw[hA]at hq;dsimp only at hq;refine ZZ [0,4,0] ?_;refine w3 (bl15++h) (h1:=cA Q3) ?_;exact⟨x15,bl15,by rw[hq];rfl,by rw[hq],hO15,rfl⟩
end
end Go.Proofs.YtgcjpahhljmlmaaGreatDoor
