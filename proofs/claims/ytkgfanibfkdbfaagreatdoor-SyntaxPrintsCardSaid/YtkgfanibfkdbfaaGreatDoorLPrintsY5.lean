import Derived.Test.YtkgfanibfkdbfaaGreatDoorLPrintsY4
set_option maxRecDepth 100000
set_option maxHeartbeats 4000000
namespace Go.Proofs.YtkgfanibfkdbfaaGreatDoor
open Go.Proofs.Tryz
section
open Go.Eng Go.Pc Go
open Go.Xp hiding B C9
open Go.Ty (Ty Vr eqT tyV I7 PrOk VOk prL encV D2 M8 D3 eqI a3c a2J b2F)
open Go.Lx (encB encB_len)
theorem b8F{m:View}{h:List Res}(hg:Glob m)(x:Sp)(hO:SOk m h x):CT prog 142 [spV x] h m (A7 h (.bool (spP x))):=by
 have hp2:x.ty.proto.length<=9223372036854775807:=Nat.le_trans hO.ty.p (by decide);have hnr:=hO.nr;have hfr:=hO.fr;have hsr:=SRd.of hO;have hET:=hO.e.t;have hEW:=hO.e.w;have zr:∀h',SRd m h' C3:=λh'=>b5R m h'
 refine cB [1,2,3,4,13,14,23,39,55,63] func142 λ_=>?_;refine xX λb1=>?_
 refine ZZ [1,5] ?_;refine xW λb3=>?_;refine Z1 ?_;refine xG (K8 (vs:=b0s) X4 rfl rfl Ev.global rfl (λj v hj=>by rw[Nat.zero_add];exact hg.sOne j v hj)) ?_;refine xW λb4=>?_
 refine Z2 ?_;refine kP2 [1,3,4,13] ?_;refine F4 KKh [1,3,4] rfl (λF' h'=>∃w:Sp,∃fb:Bool,∃lo:Int,∃hi:Int,(((1<=x.k/\x.k<=5)/\w=a0r x/\SRd m h w)/\(fb=a1j x/\(lo=1/\hi=if x.k=1 then 8 else 1)))/\F'=[(5,.bool fb)]/\.pt b4 (.cells [.int .i64 lo,.int .i64 hi].toArray 190 (0,0))::.pt b3 (.cells (spE w).toArray 43 (0,0))::.pt b1 (.cells (spE x).toArray 43 (0,0))::h=h') ?_ ?_;refine Z2 ?_;refine wE ?_ ?_<;>intro c14
 refine jE ?_;refine WC.take (r:=.pt b4 _) De ?_;refine F3 [3] (.op 0 (.op 1 (.op 2 (.op 3 .nil)))) [4,5] _ [_] C4 (λ_ _ _ _ _ h=>h) [] (by kernel_rfl) ?_;refine yG rfl (K8 (vs:=a8y) X4 rfl rfl Ev.global rfl (λj v hj=>by rw[Nat.zero_add];exact hg.sSome j v hj)) ?_;refine kA2 ?_;refine SR.store rfl rfl rfl Et Et rfl rfl rfl rfl Up ?_;refine SR.nil rfl rfl ?_;refine ZZ [2,2] ?_;refine xf (E1 Et) (Ty9.may_ct x.ty _ _ hg hp2) ?_;refine kA1 ?_
 refine WL.nil (B4 [(5,.bool (Go.Ty.may x.ty))] (h'':=.pt b4 (.cells [.int .i64 1,.int .i64 8].toArray 190 (0,0))::.pt b3 (.cells (spE (.mk x.k x.ty x.names A2 false B0 B0 none 0 [])).toArray 43 (0,0))::.pt b1 (.cells (spE x).toArray 43 (0,0))::h) ?_ Su Sb ⟨.mk x.k x.ty x.names A2 false B0 B0 none 0 [],Go.Ty.may x.ty,1,8,⟨⟨by omega,by unfold a0r;rw[if_pos c14],⟨(zr h).b,hsr.nr,(zr h).e,(zr h).v,(zr h).fr⟩⟩,by unfold a1j;rw[if_pos c14],rfl,by rw[if_pos c14]⟩,rfl,rfl⟩);exact Su;refine Z2 ?_;refine wE ?_ ?_<;>intro c23
 refine jE ?_;refine WC.take (r:=.pt b3 _) De ?_;refine F3 [5] (.op 0 (.op 1 (.op 2 (.op 3 (.op 4 (.op 5 .nil)))))) [6,7] _ [_] C4 (λ_ _ _ _ _ h=>h) [] (by kernel_rfl) ?_;refine kA5 ?_;refine SR.store rfl rfl rfl Et Et rfl rfl rfl rfl Up ?_;refine a2v (H:=_) rfl (List.Perm.swap _ _ _) ?_;refine ZZ [2,2] ?_;refine xf (E1 Et) (a7e x.ty _ _ hg hp2) ?_;refine kA3 ?_;refine A4 (GU.t rfl rfl) (λhc=>⟨Ef,(E1 (Eg hc)),may_ct hg x.e _ (hET.mono Sb) hEW⟩) Lb ?_;refine kA2 ?_
 refine WL.nil (B4 [(5,.bool (X3 x.ty&&F8 x.e))] (h'':=.pt b4 (.cells [.int .i64 1,.int .i64 1].toArray 190 (0,0))::.pt b3 (.cells (spE (.mk x.k x.ty x.names x.e false B0 B0 none 0 [])).toArray 43 (0,0))::.pt b1 (.cells (spE x).toArray 43 (0,0))::h) ?_ Su Sb ⟨.mk x.k x.ty x.names x.e false B0 B0 none 0 [],X3 x.ty&&F8 x.e,1,1,⟨⟨by omega,by unfold a0r;rw[if_neg c14,if_pos c23],⟨(zr h).b,hsr.nr,hsr.e,(zr h).v,(zr h).fr⟩⟩,by unfold a1j;rw[if_neg c14,if_pos c23],rfl,by rw[if_neg c14]⟩,rfl,rfl⟩);exact Su;refine Z2 ?_;refine wE ?_ ?_<;>intro c39
 refine jE ?_;refine WC.take (r:=.pt b3 _) De ?_;refine F3 [5] (.op 0 (.op 1 (.op 2 (.op 3 (.op 4 (.op 5 .nil)))))) [6,7] _ [_] C4 (λ_ _ _ _ _ h=>h) [] (by kernel_rfl) ?_;refine kA5 ?_;refine SR.store rfl rfl rfl Et Et rfl rfl rfl rfl Up ?_;refine a2v (H:=_) rfl (List.Perm.swap _ _ _) ?_;refine ZZ [2,2] ?_;refine xf (E1 Et) (a7e x.ty _ _ hg hp2) ?_;refine kA3 ?_;refine A4 (GU.t rfl rfl) (λhc=>⟨Ef,(E1 (Eg hc)),a5H hg x.e (hO.e.mono Sb)⟩) Lb ?_;refine kA2 ?_
 refine WL.nil (B4 [(5,.bool (X3 x.ty&&F5 x.e))] (h'':=.pt b4 (.cells [.int .i64 1,.int .i64 1].toArray 190 (0,0))::.pt b3 (.cells (spE (.mk x.k x.ty x.names x.e false B0 B0 none 0 [])).toArray 43 (0,0))::.pt b1 (.cells (spE x).toArray 43 (0,0))::h) ?_ Su Sb ⟨.mk x.k x.ty x.names x.e false B0 B0 none 0 [],X3 x.ty&&F5 x.e,1,1,⟨⟨by omega,by unfold a0r;rw[if_neg c14,if_neg c23,if_pos c39],⟨(zr h).b,hsr.nr,hsr.e,(zr h).v,(zr h).fr⟩⟩,by unfold a1j;rw[if_neg c14,if_neg c23,if_pos c39],rfl,by rw[if_neg c14]⟩,rfl,rfl⟩);exact Su;refine Z2 ?_;refine wE ?_ ?_<;>intro c55
 refine ZZ [4,2] ?_;refine xf (E1 Et) (Ty9.mayProto_ct x.cs x.vs.a x.vs.l.length x.vs.c x.vs.l _ _ hg (hO.v.mono Vl Sb)) ?_;refine kA1 ?_;refine WL.nil (B4 [(5,.bool (Go.Ty.mayPr x.cs x.vs.l))] (h'':=.pt b4 (.cells [.int .i64 1,.int .i64 1].toArray 190 (0,0))::.pt b3 (.cells (spE (.mk x.k Go.Ty.zeroT x.names A2 x.cs x.vs B0 none 0 [])).toArray 43 (0,0))::.pt b1 (.cells (spE x).toArray 43 (0,0))::h) ?_ Su Sb ⟨.mk x.k Go.Ty.zeroT x.names A2 x.cs x.vs B0 none 0 [],Go.Ty.mayPr x.cs x.vs.l,1,1,⟨⟨by omega,by unfold a0r;rw[if_neg c14,if_neg c23,if_neg c39,if_pos c55],⟨(zr h).b,hsr.nr,(zr h).e,hsr.v,(zr h).fr⟩⟩,by unfold a1j;rw[if_neg c14,if_neg c23,if_neg c39,if_pos c55],rfl,by rw[if_neg c14]⟩,rfl,rfl⟩);exact Su;refine Z2 ?_;refine wE ?_ ?_<;>intro c63
 refine jE ?_;refine WC.take (r:=.pt b3 _) De ?_;refine F3 [5] (.op 0 (.op 1 (.op 2 (.op 3 (.op 4 (.op 5 .nil)))))) [6,7] _ [_] C4 (λ_ _ _ _ _ h=>h) [] (by kernel_rfl) ?_;refine kA5 ?_;refine SR.store rfl rfl rfl Et Et rfl rfl rfl rfl Up ?_;refine a2v (H:=_) rfl (List.Perm.swap _ _ _) ?_;refine ZZ [2,7] ?_;refine zG (λ_=>PO.build X4 rfl rfl rfl Eb (by exact rfl)) ?_;refine A4 (GU.t rfl rfl) (λhc=>⟨Ef,(E3 (Eg hc) (Eg hc) Ef),c0h 239 [] foP 0 8 _ _ _ x.fs.l _ _ (λf hf h' hh=>c0s hg f (hO.fw f hf)) (hfr.mono Vl Sb)⟩) Lb ?_;refine kA2 ?_
 refine WL.nil (B4 [(5,.bool (((x.bl.length:Int)==1)&&E7 x.fs.l 0 8 foP))] (h'':=.pt b4 (.cells [.int .i64 1,.int .i64 1].toArray 190 (0,0))::.pt b3 (.cells (spE (.mk x.k Go.Ty.zeroT x.names A2 false B0 x.fs x.ba x.bc x.bl)).toArray 43 (0,0))::.pt b1 (.cells (spE x).toArray 43 (0,0))::h) ?_ Su Sb ⟨.mk x.k Go.Ty.zeroT x.names A2 false B0 x.fs x.ba x.bc x.bl,((x.bl.length:Int)==1)&&E7 x.fs.l 0 8 foP,1,1,⟨⟨by omega,by unfold a0r;rw[if_neg c14,if_neg c23,if_neg c39,if_neg c55],⟨hsr.b,hsr.nr,(zr h).e,(zr h).v,hsr.fr⟩⟩,by unfold a1j;rw[if_neg c14,if_neg c23,if_neg c39,if_neg c55],rfl,by rw[if_neg c14]⟩,rfl,rfl⟩);exact Su;refine Z1 ?_;refine wT h ?_;exact⟨by unfold spP;rw[if_neg (by omega)],rfl⟩;rintro _ _ ⟨w,fb,lo,hi,⟨⟨hkk,hw,hwr⟩,hfb,hlo,hhi⟩,rfl,rfl⟩;refine B2 rfl ?_;subst hlo;refine kA4 ?_;refine zG (λ_=>pA X4) ?_
 refine A4 (GU.t rfl rfl) (λhc=>⟨Ef,(E3 (Eg hc) (Eg hc) Ef),b9Z 136 [] Go.Lx.name 1 hi _ _ _ x.names.l _ _ (λs hs h' hh=>a1d s _ _ hg (Nat.le_trans (hO.nw s hs) (by decide))) (hnr.mono Vl Sb)⟩) Lb ?_;refine kA2 ?_;refine zG (λ_=>pA a7B) ?_;refine zG (λ_=>pA a7B) ?_;refine A4 (GU.t rfl rfl) (λhc=>⟨Ef,(E2 (Eg hc) (Eg hc)),b1Z x w (hsr.mono Sb) (hwr.mono Sb)⟩) Lb ?_;refine Z2 ?_;refine wT h ?_;exact⟨by unfold spP;rw[if_pos hkk,<-hfb,<-hw,<-hhi],rfl⟩
theorem b9A{m:View}{h:List Res}(hg:Glob m)(b3:Nat)(u:Us)(x:Gu)(hb:Res.pt b3 (.cells (usE u).toArray 192 (0,0))∈h)(hO:GOk m h x):CT prog 131 [guV x,.pointer (some ⟨b3,0,none⟩)] h m (A7 h (.bool (inG u x))):=by
 refine cB [1,2,3] func131 λ_=>?_;refine xX λb2=>?_
 refine ZZ [1,3] ?_;refine xG (E9 b8U rfl Et (List.Mem.tail _ hb) rfl) ?_;refine kA5 ?_;refine zG (λhc=>E9 b8U rfl (Eg hc) (List.Mem.tail _ hb) rfl) ?_;refine kA3 ?_;refine zG (λ_=>pA a3w) ?_;refine A4 (GU.t rfl rfl) (λhc=>⟨Ef,(E1 (Eg hc)),b96 hg x (hO.mono Sb)⟩) Lb ?_;refine Z2 ?_;refine wT h ?_;exact⟨rfl,rfl⟩
theorem b9a{m:View}{h:List Res}(n:Int):CT prog 141 [.int .i64 n] h m (A7 h (.bool (decide (n>=0)&&decide (n<8)))):=by
 refine cB [0,2] func141 λ_=>?_;refine ZZ [1,7,0] ?_;refine wT h ?_;exact⟨rfl,rfl⟩
theorem a9s{m:View}{h:List Res}(hg:Glob m)(p:Pr)(hO:P1 m h p):CT prog 61 [prV p] h m (A7 h (.bool (L2 p))):=by
 have hn2:p.name.length<=9223372036854775807:=Nat.le_trans hO.n (by decide);have htg:=hO.tg.rd;have hex:=hO.ex.rd;have hgr:=hO.g;have hpn:=hO.pn;have hsr:=SRd.of hO.sp;refine cB [1,2,3,4,5,6,20,27,31] func61 λ_=>?_;refine xX λb1=>?_
 refine ZZ [1,2] ?_;refine xf (E1 Et) (b8P hg p.k) ?_;refine kA3 ?_;refine xW λb3=>?_;refine ZZ [2,5] ?_;refine A4 (GU.f rfl rfl) (λhc=>⟨Ef,(E1 (Eg hc)),c8k hg p.rep hO.rn (hO.rb.mono Sb) (hO.rc.mono Sb)⟩) Lb ?_;refine Z2 ?_;refine wc ?_ ?_<;>intro c20
 have hR:L2 p=false:=by unfold L2;rw[if_pos (show(!(B5 p.k).2||!O6 p.rep)=true from c20)]
 refine Z1 ?_;refine wT h ?_;exact⟨by rw[hR],rfl⟩;have hR:L2 p=if p.rep.name !=[]then(if !(B5 p.k).1.rep then false else M1 p (b3H (B5 p.k).1))else M1 p (B5 p.k).1:=by unfold L2;rw[if_neg (by rw[show(!(B5 p.k).2||!O6 p.rep)=false from c20];decide)]
 refine ZZ [0,3] ?_;refine xG (S2 Et Ek) ?_;refine kP0 [1,3,24] ?_;refine F4 KKh [1,3] rfl (λF' h'=>∃u:Us,(L2 p=M1 p u)/\F'=[]/\.pt b3 (.cells (usE u).toArray 192 (0,0))::.pt b1 (.cells (prE p).toArray 45 (0,0))::h=h') ?_ ?_;refine jE ?_;refine wc ?_ ?_<;>intro c24
 rw[if_pos (show(p.rep.name !=[])=true from c24)]at hR;refine Z3 ?_;refine wc ?_ ?_<;>intro c27
 rw[if_pos (show(!(B5 p.k).1.rep)=true from c27)]at hR;refine Z1 ?_;refine wT h ?_;exact⟨by rw[hR],rfl⟩;rw[if_neg (by rw[show(!(B5 p.k).1.rep)=false from c27];decide)]at hR;refine ZZ [0,2] ?_;refine xG (K8 (vs:=c5w) X4 rfl rfl Ev.global rfl (λj v hj=>by rw[Nat.zero_add];exact hg.sAll j v hj)) ?_;refine xG (a1i X4 (by kernel_rfl) (by kernel_rfl) Et Et rfl) ?_;refine Z0 ?_;refine wc ?_ ?_<;>intro c31
 have hA:c0X (B5 p.k).1=true:=by unfold c0X;simpa using c31
 have hR:L2 p=M1 p { (B5 p.k).1 with p0:=1,p1:=1 }:=by rw[hR];unfold b3H;rw[if_pos hA]
 refine j0 ?_;refine xG (K8 (vs:=b0s) X4 rfl rfl Ev.global rfl (λj v hj=>by rw[Nat.zero_add];exact hg.sOne j v hj)) ?_;refine kA2 ?_;refine WL.nil (B4 [] (h'':=.pt b3 (.cells (usE ({ (B5 p.k).1 with p0:=1,p1:=1 })).toArray 192 (0,0))::.pt b1 (.cells (prE p).toArray 45 (0,0))::h) ?_ Su Sb ⟨{ (B5 p.k).1 with p0:=1,p1:=1 },hR,rfl,rfl⟩);exact Su;have hA:¬c0X (B5 p.k).1=true:=by unfold c0X;simpa using c31
 have hR:L2 p=M1 p { (B5 p.k).1 with g0:=1,g1:=1 }:=by rw[hR];unfold b3H;rw[if_neg hA]
 refine j0 ?_;refine xG (K8 (vs:=b0s) X4 rfl rfl Ev.global rfl (λj v hj=>by rw[Nat.zero_add];exact hg.sOne j v hj)) ?_;refine kA2 ?_;refine WL.nil (B4 [] (h'':=.pt b3 (.cells (usE ({ (B5 p.k).1 with g0:=1,g1:=1 })).toArray 192 (0,0))::.pt b1 (.cells (prE p).toArray 45 (0,0))::h) ?_ Su Sb ⟨{ (B5 p.k).1 with g0:=1,g1:=1 },hR,rfl,rfl⟩);exact Su;rw[if_neg (by rw[show(p.rep.name !=[])=false from c24];decide)]at hR;refine WC.skip (B4 [] (h'':=.pt b3 (.cells (usE ((B5 p.k).1)).toArray 192 (0,0))::.pt b1 (.cells (prE p).toArray 45 (0,0))::h) ?_ Su Sb ⟨(B5 p.k).1,hR,rfl,rfl⟩);exact Su;rintro _ _ ⟨u,hu,rfl,rfl⟩;refine B2 rfl ?_;refine kA1 ?_;refine xW λb5=>?_
 refine Z1 ?_;refine kP2 [1,3,5,38] ?_;refine F4 KKh [1,3,5] rfl (λF' h'=>∃lo:Int,∃hi:Int,(lo=(if u.procs then(p.ll.length:Int)else 0)/\hi=(if u.procs then(p.ll.length:Int)else 0))/\F'=[]/\.pt b5 (.cells [.int .i64 lo,.int .i64 hi].toArray 190 (0,0))::.pt b3 (.cells (usE u).toArray 192 (0,0))::.pt b1 (.cells (prE p).toArray 45 (0,0))::h=h') ?_ ?_;refine jE ?_;refine wc ?_ ?_<;>intro c38
 refine kA8 ?_;refine WL.nil (B4 [] (h'':=.pt b5 (.cells [.int .i64 ((p.ll.length:Int)),.int .i64 ((p.ll.length:Int))].toArray 190 (0,0))::.pt b3 (.cells (usE u).toArray 192 (0,0))::.pt b1 (.cells (prE p).toArray 45 (0,0))::h) ?_ Su Sb ⟨(p.ll.length:Int),(p.ll.length:Int),⟨by rw[if_pos c38],by rw[if_pos c38]⟩,rfl,rfl⟩);exact Su;refine WC.skip (B4 [] (h'':=.pt b5 (.cells [.int .i64 0,.int .i64 0].toArray 190 (0,0))::.pt b3 (.cells (usE u).toArray 192 (0,0))::.pt b1 (.cells (prE p).toArray 45 (0,0))::h) ?_ Su Sb ⟨0,0,⟨by rw[if_neg (by rw[c38];decide)],by rw[if_neg (by rw[c38];decide)]⟩,rfl,rfl⟩);exact Su;rintro _ _ ⟨lo,hi,⟨hlo,hhi⟩,rfl,rfl⟩;refine B2 rfl ?_;refine j0 ?_;refine xG (PO.makeFunc Evs.nil (E1 Et)) ?_;refine Z1 ?_
 refine dS [5,12,19,23,30,33,34,41,48,54,62] (.op 0 (.op 1 (.op 2 (.op 3 (.op 4 (.op 5 (.op 6 (.op 7 (.op 8 (.op 9 (.op 10 (.op 11 (.op 12 (.op 13 (.op 14 (.op 15 (.op 16 (.op 17 (.op 18 (.op 20 (.op 21 (.op 22 (.op 19 (.op 23 (.op 24 (.op 25 (.op 26 (.op 27 (.op 28 (.op 29 (.op 31 (.op 32 (.op 30 (.op 33 (.op 34 (.op 35 (.op 36 (.op 37 (.op 38 (.op 39 (.op 40 (.op 41 (.op 42 (.op 43 (.op 44 (.op 45 (.op 46 (.op 47 (.op 48 (.op 49 (.op 50 (.op 51 (.op 52 (.op 53 (.op 54 (.op 55 (.op 56 (.op 57 (.op 58 (.op 59 (.op 60 (.op 61 (.op 62 (.op 63 (.op 64 (.op 65 (.op 66 (.op 67 (.op 68 (.op 69 (.op 70 (.op 71 .nil)))))))))))))))))))))))))))))))))))))))))))))))))))))))))))))))))))))))) [72,73,74,75,76] C4 ?_;refine kA4 ?_;refine yG rfl (Y8 c6t Et) ?_;refine yf rfl (E2 Et Et) (λfr=>a81 u.p0 u.p1 p.ll.length _ _) ?_;refine kA5 ?_;refine C0 rfl rfl (GU.t rfl rfl) (λhc=>PO.move Et) Lb ?_
 refine K3 rfl rfl (GU.t rfl rfl) (λhc=>⟨Ef,(E3 (Eg hc) (Eg hc) (Eg hc)),λfr=>c0g 131 [.pointer (some ⟨b3,0,none⟩)] (inG u) u.g0 u.g1 _ _ _ p.gl _ _ (λx hx h' hh=>b9A hg b3 u x (hh.subset (List.mem_append_right _ Me)) ((hO.gs x hx).mono (List.Sublist.trans Sb hh))) (hgr.mono Vl Sb)⟩) Lb ?_;refine kA8 ?_;refine C0 rfl rfl (GU.t rfl rfl) (λhc=>H3 (Eg hc) Ek) Lb ?_;refine K3 rfl rfl (GU.t rfl rfl) (λhc=>⟨Ef,(E1 (Eg hc)),λfr=>a1d p.name _ _ hg hn2⟩) Lb ?_;refine K3 rfl rfl (GU.t rfl rfl) (λhc=>⟨Ef,(E3 (Eg hc) (Eg hc) (Eg hc)),λfr=>a2F _ _ _ _ _⟩) Lb ?_;refine kA8 ?_;refine K3 rfl rfl (GU.t rfl rfl) (λhc=>⟨Ef,(E1 (Eg hc)),λfr=>a5H hg p.ch (hO.ch.mono Sb)⟩) Lb ?_;refine K3 rfl rfl (GU.t rfl rfl) (λhc=>⟨Ef,(E1 (Eg hc)),λfr=>a3n p.ch (hO.ch.t.mono Sb)⟩) Lb ?_
 refine K3 rfl rfl (GU.t rfl rfl) (λhc=>⟨Ef,(E3 (Eg hc) (Eg hc) (Eg hc)),λfr=>a2F _ _ _ _ _⟩) Lb ?_;refine kA6 ?_;refine K3 rfl rfl (GU.t rfl rfl) (λhc=>⟨Ef,(E3 (Eg hc) (Eg hc) Ef),λfr=>a5T 137 [] F5 u.t0 u.t1 _ _ _ p.tg.l _ _ (λx hx h' hh=>a5H hg x ((hO.tg.ok x hx).mono (List.Sublist.trans Sb hh))) (htg.mono Vl Sb)⟩) Lb ?_;refine kA6 ?_;refine K3 rfl rfl (GU.t rfl rfl) (λhc=>⟨Ef,(E3 (Eg hc) (Eg hc) Ef),λfr=>a5T 139 [] F8 u.e0 u.e1 _ _ _ p.ex.l _ _ (λx hx h' hh=>may_ct hg x _ ((hO.ex.ok x hx).t.mono (List.Sublist.trans Sb hh)) (hO.ex.ok x hx).w) (hex.mono Vl Sb)⟩) Lb ?_;refine kA4 ?_;refine C0 rfl rfl (GU.t rfl rfl) (λhc=>W6 X4 rfl rfl Et Me rfl) Lb ?_;refine K3 rfl rfl (GU.t rfl rfl) (λhc=>⟨Ef,(E3 (Eg hc) (Eg hc) Ef),λfr=>b9l 141 [] (λn=>decide (n>=0)&&decide (n<8)) lo hi _ _ _ p.pn.l _ _ (λx _ _ _=>b9a x) (hpn.mono Vl Sb)⟩) Lb ?_;refine kA4 ?_
 refine C0 rfl rfl (GU.t rfl rfl) (λhc=>PO.move (Eg hc)) Lb ?_;refine C0 rfl rfl (a0q rfl rfl) (λhc=>PO.fieldAddr S9 rfl (Nat.ne_of_beq_eq_false rfl) Et) Lb ?_;refine C0 rfl rfl (a0q rfl rfl) (λhc=>W6 a7B rfl rfl (Eg hc) Me rfl) Lb ?_;refine K3 rfl rfl (a0q rfl rfl) (λhc=>⟨Ef,(E1 (Eg hc)),λfr=>b8F hg p.sp (hO.sp.mono Sb)⟩) Lb ?_;refine C0 rfl rfl (GU.t rfl rfl) (λhc=>Q2 hc rfl rfl) Lb ?_;refine C0 rfl rfl (GU.t rfl rfl) (λhc=>PO.move (Eg hc)) Lb ?_;refine C0 rfl rfl (a4P rfl rfl) (λhc=>PO.fieldAddr a0i rfl (Nat.ne_of_beq_eq_false rfl) Et) Lb ?_;refine C0 rfl rfl (a4P rfl rfl) (λhc=>E9 uu4 rfl (Eg hc) Me rfl) Lb ?_;refine C0 rfl rfl (a4P rfl rfl) (λhc=>PO.not (Eg hc)) Lb ?_;refine C0 rfl rfl (a4P rfl rfl) (λhc=>PO.move (Eg hc)) Lb ?_;refine C0 rfl rfl (a0q rfl rfl) (λhc=>PO.fieldAddr S9 rfl (Nat.ne_of_beq_eq_false rfl) Et) Lb ?_
 refine C0 rfl rfl (a0q rfl rfl) (λhc=>W6 a7B rfl rfl (Eg hc) Me rfl) Lb ?_;refine C0 rfl rfl (a0q rfl rfl) (λhc=>PO.build a7B rfl rfl rfl EvP.nil rfl) Lb ?_;refine SR.nil rfl rfl ?_;refine A4 (a0q rfl rfl) (λhc=>⟨Ef,(E2 (Eg hc) (Eg hc)),c1D p.sp (hsr.mono Sb)⟩) Lb ?_;refine E8 (a4P rfl rfl) (λhc=>Q2 hc rfl rfl) Lb ?_;refine zG (λhc=>S0 hc rfl rfl) ?_;refine Z2 ?_;refine wT h ?_;exact⟨by rw[hu];unfold M1;rw[<-hlo,show hi=lo from hhi.trans hlo.symm],rfl⟩
abbrev ctR(bc:Nat)(q:Int):Res:=.pt bc (.cells [.int .i64 q].toArray 90 (0,0))
theorem b8d{l:List Pr}{x:Pr}(h:l[0]?=some x)(d q:Int):a4S l d q=G9 x d false q:=by
 cases l with
 |nil=>cases h
 |cons y r=>cases h;rfl
theorem b3X{p:Pr}{d left:Int}{pl:Bool}(h0:0<=left)(h:(G9 p d pl left).1=true):0<=(G9 p d pl left).2/\(G9 p d pl left).2<=left:=by obtain⟨h1,h2⟩:=(a2M p d pl left h0 h).2 h;exact⟨h2,by omega⟩
def mayR(p:Pr)(bl d:Int)(pl:Bool)(i:Nat)(q:Int):Bool×Int:=if(S8 (p.ll.drop i) bl pl q).1 then a2d p.gl (d+2) (S8 (p.ll.drop i) bl pl q).2 else S8 (p.ll.drop i) bl pl q
theorem c2Q{m:View}(hg:Glob m)(p:Pr):∀(h:List Res)(bc:Nat)(d left:Int)(pl:Bool),POk m h p->(0<=d/\d<=34)->(0<=left/\left<=2048) ->
 CT prog 31 [.pointer (some ⟨bc,0,none⟩),prV p,.int .i64 d,.bool pl] (ctR bc left::h) m (A7 (ctR bc (G9 p d pl left).2::h) (.bool (G9 p d pl left).1)):=by
 refine Pr.ind (q:=λp=>∀(h:List Res)(bc:Nat)(d left:Int)(pl:Bool),POk m h p->(0<=d/\d<=34)->(0<=left/\left<=2048) ->
  CT prog 31 [.pointer (some ⟨bc,0,none⟩),prV p,.int .i64 d,.bool pl] (ctR bc left::h) m (A7 (ctR bc (G9 p d pl left).2::h) (.bool (G9 p d pl left).1))) (λp ih h bc d left pl hP hd hlf=>?_) p
 have hO:=hP.own;have hlr:=hO.l;have hgr:=hO.g;have hbr:=hO.sp.b;have lmx:=hlr.mx;have lle:=hlr.le;have gmx:=hgr.mx;have gle:=hgr.le;have he:=a4t p d pl left;obtain⟨G,hG⟩:∃G,G=G9 p d pl left:=⟨_,rfl⟩;rw[<-hG]at he⊢;refine cB [0,2,3,5,8,9,11,13,43,47,48,52,82,84,85,86,87,100,103,104,105,106,117] func31 λ_=>?_
 refine xX λb5=>?_;refine ZZ [1,4] ?_;refine xG (Q4 Et Ek (by omega)) ?_;refine ZZ [3,10] ?_;refine zG (λ_=>pA S9) ?_;refine A4 (GU.f rfl rfl) (λhc=>⟨Ef,(E1 (Eg hc)),a9s hg p (hO.mono Sb)⟩) Lb ?_;refine kA9 ?_;refine zG (λhc=>Q2 hc rfl rfl) ?_;refine Z1 ?_;refine wc ?_ ?_<;>intro c43
 have hh:U3 p d pl left=true:=c43;rw[hh,if_pos rfl]at he;refine Z1 ?_;refine wT (ctR bc (left-1)::h) ?_;exact⟨by rw[he],by rw[he]⟩;have hh:U3 p d pl left=false:=c43;rw[hh,if_neg (by decide)]at he;obtain⟨⟨hl0,hd2⟩,hpl⟩:=b5B hh;have hV:=a0G hpl;obtain⟨y,hy⟩:∃y:Pr,0<p.sp.bl.length->p.sp.bl[0]?=some y:=by
  cases hb:p.sp.bl with
  |nil=>exact⟨p,λq=>absurd q (by simp)⟩
  |cons y r=>exact⟨y,λ_=>rfl⟩
 refine ZZ [0,3,0] ?_;refine kP2 [0,2,3,5,9,47] ?_;refine F4 KKh [0,2,3,5] rfl (λF' h'=>∃bl:Int,∃q:Int,((0<=bl/\bl<=34)/\(0<=q/\q<=2048)/\G=mayR p bl d (pl&&(p.k==18)) 0 q)/\F'=[(9,.int .i64 bl)]/\.pt b5 (.cells (prE p).toArray 45 (0,0))::ctR bc q::h=h') ?_ ?_;refine Z2 ?_;refine wE ?_ ?_<;>intro c48
 rw[if_neg (by omega),if_pos c48]at he;refine kA3 ?_;refine WL.nil (B4 [(9,.int .i64 (d+2))] (h'':=.pt b5 (.cells (prE p).toArray 45 (0,0))::ctR bc (left-1)::h) ?_ Su Sb ⟨d+2,left-1,⟨⟨by omega,by omega⟩,⟨by omega,by omega⟩,by rw[he,show(p.k==18)=false by rw[c48];rfl,Bool.and_false];rfl⟩,rfl,rfl⟩);exact Su;refine Z2 ?_;refine wE ?_ ?_<;>intro c52
 rw[if_pos c52]at he;have hsl:p.sp.bl.length<=1:=c3Q (hV.sp (by rw[c52];rfl));have hyi:0<p.sp.bl.length->In y p:=λq=>In.s (List.mem_of_getElem? (hy q))
 have hS:=a5U p.sp d (left-1);have hS0:¬0<p.sp.bl.length->a4S p.sp.bl (d+1) (left-1)=(true,left-1):=λq=>by
  have hb:p.sp.bl=[]:=List.eq_nil_of_length_eq_zero (by omega);rw[hb];rfl
 have hcall:(!(p.sp.cs&&decide (d+2>32))&&decide ((p.sp.bl.length:Int)>0))=true->CT prog 31 [.pointer (some ⟨bc,0,none⟩),prV y,.int .i64 (d+1),.bool false] (.pt b5 (.cells (prE p).toArray 45 (0,0))::ctR bc (left-1)::h) m
  (A7 (.pt b5 (.cells (prE p).toArray 45 (0,0))::ctR bc (W9 p.sp d (left-1)).2::h) (.bool (a4S p.sp.bl (d+1) (left-1)).1)):=by
  intro hc;have h1:0<p.sp.bl.length:=by simp at hc;omega
  have h2:¬(p.sp.cs&&decide (d+2>32))=true:=by intro q;rw[q]at hc;simp at hc
  rw[hS,if_neg h2,b8d (hy h1)];exact CT.perm (List.Perm.swap _ _ _) (ih y (hyi h1) (.pt b5 (.cells (prE p).toArray 45 (0,0))::h) bc (d+1) (left-1) false ((hP.sub (hyi h1)).mono Sb) ⟨by omega,by omega⟩ ⟨by omega,by omega⟩) (List.Perm.swap _ _ _)
 have hskip:(!(p.sp.cs&&decide (d+2>32))&&decide ((p.sp.bl.length:Int)>0))=false->(Res.pt b5 (.cells (prE p).toArray 45 (0,0))::ctR bc (W9 p.sp d (left-1)).2::h)=.pt b5 (.cells (prE p).toArray 45 (0,0))::ctR bc (left-1)::h:=by
  intro hc;have h3:(W9 p.sp d (left-1)).2=left-1:=by
   rw[hS];split
   ·rfl
   ·rename_i h2
    rw[hS0 (λq=>(by
     have h4:decide ((p.sp.bl.length:Int)>0)=true:=by simp;omega
     rw[h4,Bool.and_true]at hc;exact h2 (by simpa using hc)))]
  rw[h3]
 refine ZZ [2,6] ?_;refine E8 (GU.t rfl rfl) (λhc=>L6 (Eg hc) Ek (by first|omega|(simp at hc;omega))) Lb ?_;refine a8L ?_;refine kA1 ?_;refine E8 (a0q rfl rfl) (λhc=>D8 T9.und T9.size T9.posz (Eg hc) Ek Rr rfl (q:=0) (by simp at hc;omega)) Lb ?_;refine E8 (a0q rfl rfl) (λhc=>a0Y S9 rfl rfl a2r Rr (Eg hc) (hy (by simp at hc;omega)) rfl rfl (Nat.succ_pos _)) Lb ?_;refine kA1 ?_;refine E8 (a0q rfl rfl) (λhc=>L6 (Eg hc) Ek (by first|omega|(simp at hc;omega))) Lb ?_;refine a5Q (a0q rfl rfl) (λhc=>⟨Ef,(E4 (Eg hc) (Eg hc) (Eg hc) Ek),hcall hc⟩) (λhc=>(hskip hc)) Lb ?_;refine kA1 ?_;refine zG (λhc=>Q2 hc rfl rfl) ?_;refine Z1 ?_;refine wc ?_ ?_<;>intro c82
 have d82:((p.sp.cs&&decide (d+2>32))||(decide ((p.sp.bl.length:Int)>0)&&!(a4S p.sp.bl (d+1) (left-1)).1))=true:=c82;have hS1:(W9 p.sp d (left-1)).1=false:=by
  rw[hS];split
  ·rfl
  ·rename_i h2
   rw[show(p.sp.cs&&decide (d+2>32))=false by simpa using h2,Bool.false_or]at d82;simp only[Bool.and_eq_true,Bool.not_eq_true']at d82;exact d82.2
 rw[hS1,if_neg (by decide)]at he;refine Z1 ?_;refine wT (ctR bc (W9 p.sp d (left-1)).2::h) ?_;exact⟨by rw[he,hS1],by rw[he]⟩;have d82:((p.sp.cs&&decide (d+2>32))||(decide ((p.sp.bl.length:Int)>0)&&!(a4S p.sp.bl (d+1) (left-1)).1))=false:=c82;simp only[Bool.or_eq_false_iff]at d82;have hSH:W9 p.sp d (left-1)=a4S p.sp.bl (d+1) (left-1):=by rw[hS,if_neg (by rw[d82.1];decide)]
 have hS1:(W9 p.sp d (left-1)).1=true:=by
  rw[hSH];by_cases hb:0<p.sp.bl.length
  ·have h9:=d82.2
   rw[show decide ((p.sp.bl.length:Int)>0)=true by simp;omega,Bool.true_and]at h9;simpa using h9
  ·rw[hS0 hb]
 have hrb:0<=(W9 p.sp d (left-1)).2/\(W9 p.sp d (left-1)).2<=left-1:=by rw[hSH]at hS1⊢;obtain⟨_,r1,r2⟩:=a6N hl0 hsl (λx _ d pl q h0 h=>a2M x d pl q h0 h) hS1;omega
 rw[hS1,if_pos rfl]at he;refine WC.skip (B4 [(9,.int .i64 d)] (h'':=.pt b5 (.cells (prE p).toArray 45 (0,0))::ctR bc ((W9 p.sp d (left-1)).2)::h) ?_ Su Sb ⟨d,(W9 p.sp d (left-1)).2,⟨⟨by omega,by omega⟩,⟨by omega,by omega⟩,by rw[he,show(p.k==18)=true by rw[c52];rfl,Bool.and_true];rfl⟩,rfl,rfl⟩);exact Su;rw[if_neg c52,if_neg c48]at he;refine WC.skip (B4 [(9,.int .i64 (d+1))] (h'':=.pt b5 (.cells (prE p).toArray 45 (0,0))::ctR bc (left-1)::h) ?_ Su Sb ⟨d+1,left-1,⟨⟨by omega,by omega⟩,⟨by omega,by omega⟩,by rw[he,show(p.k==18)=false by simpa using c52,Bool.and_false];rfl⟩,rfl,rfl⟩);exact Su;rintro _ _ ⟨bl,q,⟨hbl,hq,hG1⟩,rfl,rfl⟩;refine B2 rfl ?_;refine Z4 ?_
 refine B1 [0,2,3,5,9,84,85] rfl (λμ F' h'=>∃i:Nat,∃q:Int,((i<=p.ll.length/\(0<=q/\q<=2048))/\G=mayR p bl d (pl&&(p.k==18)) i q)/\p.ll.length-i=μ/\F'=[(86,.int .i64 i)]/\.pt b5 (.cells (prE p).toArray 45 (0,0))::ctR bc q::h=h') (p.ll.length-0) [(86,.int .i64 0)] (h0:=.pt b5 (.cells (prE p).toArray 45 (0,0))::ctR bc q::h) ?_ Sb ⟨0,q,⟨⟨by omega,hq⟩,hG1⟩,rfl,rfl,rfl⟩ ?_;exact Su;rintro _ _ _ ⟨i,q,⟨⟨hk,hq⟩,hJ⟩,rfl,rfl,rfl⟩;refine B2 rfl ?_;refine Z1 ?_;refine wD ?_ ?_<;>intro c87
 obtain⟨x,hx⟩:=A5 (l:=p.ll) (k:=i) (by omega);have hxm:=List.mem_of_getElem? hx;have hL:S8 (p.ll.drop i) bl (pl&&(p.k==18)) q=if(G9 x bl (pl&&(p.k==18)) q).1 then S8 (p.ll.drop (i+1)) bl (pl&&(p.k==18)) (G9 x bl (pl&&(p.k==18)) q).2 else G9 x bl (pl&&(p.k==18)) q:=by rw[W5 hx];rfl
 unfold mayR at hJ;rw[hL]at hJ;refine ZZ [0,2] ?_;refine xW λb11=>?_
 refine ZZ [1,9] ?_;refine xg (E4 Et Et Et Et) (CT.perm (List.perm_middle (l₁:=[_,_])) (ih x (In.l hxm) (.pt b11 (.cells (prE x).toArray 45 (0,0))::.pt b5 (.cells (prE p).toArray 45 (0,0))::h) bc bl q (pl&&(p.k==18)) ((hP.sub (In.l hxm)).mono Sb) hbl hq) (List.perm_middle (l₁:=[_,_])).symm) ?_;rintro _ _ ⟨rfl,rfl⟩;refine Z1 ?_;refine wc ?_ ?_<;>intro c100
 have hc0:(G9 x bl (pl&&(p.k==18)) q).1=false:=by simpa using c100
 simp only[hc0,Bool.false_eq_true,if_false]at hJ;refine Z1 ?_;refine wT (ctR bc (G9 x bl (pl&&(p.k==18)) q).2::h) ?_;exact⟨by rw[hJ,hc0],by rw[hJ]⟩;have hc0:(G9 x bl (pl&&(p.k==18)) q).1=true:=by simpa using c100
 rw[hc0,if_pos rfl]at hJ;have hrg:=b3X hq.1 hc0;refine ZZ [0,2] ?_;refine WL.nil (A6 (p.ll.length-(i+1)) [(86,.int .i64 (i+1))] (h'':=.pt b5 (.cells (prE p).toArray 45 (0,0))::ctR bc ((G9 x bl (pl&&(p.k==18)) q).2)::h) (by omega) ?_ Su Sb ⟨i+1,(G9 x bl (pl&&(p.k==18)) q).2,⟨⟨by omega,⟨by omega,by omega⟩⟩,hJ⟩,rfl,rfl,rfl⟩);exact Su;have hJ:G=a2d (p.gl.drop 0) (d+2) q:=by rw[hJ];unfold mayR;rw[show p.ll.drop i=[] from List.drop_eq_nil_of_le (by omega)];rfl
 refine ZZ [0,4,0] ?_;refine B1 [0,2,103,104] rfl (λμ F' h'=>∃i:Nat,∃q:Int,((i<=p.gl.length/\(0<=q/\q<=2048))/\G=a2d (p.gl.drop i) (d+2) q)/\p.gl.length-i=μ/\F'=[(105,.int .i64 i)]/\.pt b5 (.cells (prE p).toArray 45 (0,0))::ctR bc q::h=h') (p.gl.length-0) [(105,.int .i64 0)] (h0:=.pt b5 (.cells (prE p).toArray 45 (0,0))::ctR bc q::h) ?_ Sb ⟨0,q,⟨⟨by omega,hq⟩,hJ⟩,rfl,rfl,rfl⟩ ?_;exact Su;rintro _ _ _ ⟨i,q,⟨⟨hk,hq⟩,hJ⟩,rfl,rfl,rfl⟩;refine B2 rfl ?_;refine Z1 ?_;refine wD ?_ ?_<;>intro c106
 obtain⟨g,hgx⟩:=A5 (l:=p.gl) (k:=i) (by omega);have hgm:=List.mem_of_getElem? hgx;have hgv:=a6T (hV.gs g hgm).1;obtain⟨x,hx⟩:=A5 (l:=g.bl) (k:=0) (by have:=hgv.body;omega);have hxi:In x p:=In.g hgm (List.mem_of_getElem? hx);have hx1:0<g.bl.length:=(List.getElem?_eq_some_iff.1 hx).1;have hgb:=(hO.gs g hgm).b;have hGG:a2d (p.gl.drop i) (d+2) q=if(G9 x (d+2) false q).1 then a2d (p.gl.drop (i+1)) (d+2) (G9 x (d+2) false q).2 else G9 x (d+2) false q:=by rw[W5 hgx,<-b8d hx,<-a5B];rfl
 rw[hGG]at hJ;refine ZZ [0,2] ?_;refine xW λb13=>?_
 refine ZZ [1,3] ?_;refine xG (D8 T9.und T9.size T9.posz (Ev.tmp rfl) Ek Rr rfl (q:=0) (by omega)) ?_;refine kA3 ?_;refine xg (E4 Et Et Et Ek) (CT.perm (List.perm_middle (l₁:=[_,_])) (ih x hxi (.pt b13 (.cells (guE g).toArray 100 (0,0))::.pt b5 (.cells (prE p).toArray 45 (0,0))::h) bc (d+2) q false ((hP.sub hxi).mono Sb) ⟨by omega,by omega⟩ hq) (List.perm_middle (l₁:=[_,_])).symm) ?_;rintro _ _ ⟨rfl,rfl⟩;refine Z1 ?_;refine wc ?_ ?_<;>intro c117
 have hc0:(G9 x (d+2) false q).1=false:=by simpa using c117
 rw[hc0,if_neg (by decide)]at hJ;refine Z1 ?_;refine wT (ctR bc (G9 x (d+2) false q).2::h) ?_;exact⟨by rw[hJ,hc0],by rw[hJ]⟩;have hc0:(G9 x (d+2) false q).1=true:=by simpa using c117
 rw[hc0,if_pos rfl]at hJ;have hrg:=b3X hq.1 hc0;refine ZZ [0,2] ?_;refine WL.nil (A6 (p.gl.length-(i+1)) [(105,.int .i64 (i+1))] (h'':=.pt b5 (.cells (prE p).toArray 45 (0,0))::ctR bc ((G9 x (d+2) false q).2)::h) (by omega) ?_ Su Sb ⟨i+1,(G9 x (d+2) false q).2,⟨⟨by omega,⟨by omega,by omega⟩⟩,hJ⟩,rfl,rfl,rfl⟩);exact Su;have hJ:G=(true,q):=by rw[hJ,show p.gl.drop i=[] from List.drop_eq_nil_of_le (by omega)];rfl
 refine ZZ [0,1,0] ?_;refine wT (ctR bc q::h) ?_;exact⟨by rw[hJ],by rw[hJ]⟩
theorem b3C{m:View}{h:List Res}(hg:Glob m)(p:Pr)(hP:POk m h p):CT prog 13 [prV p] h m (A7 h (.bool (mayP p))):=by
 refine cB [1,2,3] func13 λ_=>?_;refine xX λb1=>?_
 refine ZZ [1,1] ?_;refine xX λb5=>?_;refine ZZ [1,2] ?_;refine xg (E4 Et Et Ek Ek) (c2Q hg p (.pt b1 (.cells (prE p).toArray 45 (0,0))::h) b5 0 2048 true (hP.mono Sb) ⟨by omega,by omega⟩ ⟨by omega,by omega⟩) ?_;rintro _ _ ⟨rfl,rfl⟩;refine Z1 ?_;refine wT h ?_;exact⟨rfl,rfl⟩
end
section
open Go.Eng Go.Pc Go.Sx Go
open Go.Xp hiding B C9
open Go.Ty (Ty Vr Tok eqT tyV I7 A3 B8 O4 zeroK)
abbrev wrV(e:Int):Value:=.iface 114 (.agg #[.int .i64 e])
abbrev lnR(b:Nat)(a:Option Addr)(n c:Nat):Res:=.pt b (.cells [.slice a n c].toArray 165 (0,0))
structure Tk2(m:View)(h:List Res)(a:Option Addr)(c:Nat)(ts:List Tok):Prop where
 k:Tks m h a c ts
 n:∀t∈ts,-2147483648<=t.n/\t.n<=2147483647
theorem Tk2.mono{m:View}{h h':List Res}{a:Option Addr}{c:Nat}{ts:List Tok}(q:Tk2 m h a c ts)(s:h.Sublist h'):Tk2 m h' a c ts:=⟨q.k.mono s,q.n⟩
theorem Tk2.drop{m:View}{h:List Res}{a:Option Addr}{c:Nat}{ts:List Tok}(q:Tk2 m h a c ts){i:Nat}(hi:i<=ts.length):Tk2 m h (sl1 a i c 4) (c-i) (ts.drop i):=
 ⟨⟨by rw[List.length_drop];exact q.k.rd.dropF B8 (by decide) hi,by have:=q.k.le;rw[List.length_drop];omega,λt ht=>q.k.tx t (List.mem_of_mem_drop ht)⟩,λt ht=>q.n t (List.mem_of_mem_drop ht)⟩
theorem Tk2.tail{m:View}{h:List Res}{a:Option Addr}{c:Nat}{ts:List Tok}(q:Tk2 m h a c ts)(hi:0<ts.length):Tk2 m h (sl1 a 1 c 4) (c-1) ts.tail:=by rw[<-List.drop_one];exact q.drop hi
theorem Tk2.ok{m:View}{h:List Res}{a:Option Addr}{c:Nat}{ts:List Tok}(q:Tk2 m h a c ts):Go.Ty.TkOk ts:=λx hx=>⟨q.n x hx,Nat.le_trans (q.k.tx x hx) (by decide)⟩
abbrev LnR{α:Type}(m:View)(hT h:List Res)(b:Nat)(M:E α)(O:α->Value->List Res->Prop)(v:Value)(h':List Res):Prop:=
 ∃(x:α)(r:List Tok)(a:Option Addr)(c:Nat)(bl:List Res),M=.ok (x,r)/\O x v bl/\Tk2 m hT a c r/\h'=lnR b a r.length c::(bl++h)
abbrev LnE{α:Type}(h:List Res)(M:E α)(v:Value)(h':List Res):Prop:=∃e,M=.error e/\v=wrV e/\h'=h
abbrev LnX{α:Type}(m:View)(f:FuncId)(args:List Value)(b:Nat)(a:Option Addr)(c:Nat)(ts:List Tok)(hT h:List Res)(M:E α)(O:α->Value->List Res->Prop):Prop:=
 CX prog f args (lnR b a ts.length c::h) m (λv _ h'=>LnR m hT h b M O v h') (λv h'=>LnE h M v h')
abbrev LnV{α:Type}(m:View)(hT h:List Res)(b:Nat)(M:E α)(W:α->Value->Prop)(v:Value)(h':List Res):Prop:=
 ∃(x:α)(r:List Tok)(a:Option Addr)(c:Nat),M=.ok (x,r)/\W x v/\Tk2 m hT a c r/\h'=lnR b a r.length c::h
abbrev LnY{α:Type}(m:View)(f:FuncId)(args:List Value)(b:Nat)(a:Option Addr)(c:Nat)(ts:List Tok)(hT h:List Res)(M:E α)(W:α->Value->Prop):Prop:=
 CX prog f args (lnR b a ts.length c::h) m (λv _ h'=>LnV m hT h b M W v h') (λv h'=>LnE h M v h')
abbrev WN(s:B)(v:Value):Prop:=v=str s/\s.length<=Big
abbrev WT(x:Ty)(v:Value):Prop:=v=tyV x/\TyW x
abbrev WI(k:Int)(v:Value):Prop:=v=.int .u8 k/\0<=k/\k<=255
abbrev WF(f:Fo)(v:Value):Prop:=v=foV f/\FoW f
abbrev OE(m:View)(x:Ex)(v:Value)(bl:List Res):Prop:=∃t,v=exV t/\C6 t=x/\EOk m bl t
abbrev OR(m:View)(x:Rp)(v:Value)(bl:List Res):Prop:=∃r,v=rpV r/\stR r=x/\r.name.length<=Big/\EOk m bl r.base/\EOk m bl r.count
theorem lnP{α:Type}(fn:Func){n:Cx}{F:Fm}{H h:List Res}{m:View}{R:Value->View->List Res->Prop}{M:E α}{e:Int}(hq:M=.error e)(hd:h.Sublist H)(hds:n.ds=[]:=by rfl) :
 ∀a w,Fr n F a->St m H w->bodyPost prog fn (RX m R (λv h'=>LnE h M v h')) (.panic [{ v:=wrV e,recovered:=false }]) a w:=a2R h Vl hd ⟨e,hq,rfl,rfl⟩ hds
inductive Mv(bl:List Res):List Res->List Res->Prop
 |stop {h:List Res}:Mv bl h (bl++h)
 |cons {x:Res} {s d:List Res} (q:Mv bl s d):Mv bl (x::s) (x::d)
theorem Mv.perm{bl s d:List Res}(q:Mv bl s d:=by repeat (first|apply Mv.cons|exact Mv.stop)):(bl++s).Perm d:=by
 induction q with
 |stop=>exact List.Perm.refl _
 |cons _ ih=>exact List.perm_middle.trans (ih.cons _)
theorem H5(m:View)(h:List Res):EOk m h A2:=⟨a9f m h,.mk (by decide) (by decide) (by decide) (by decide) (Nat.zero_le _) λ_ hx=>(List.not_mem_nil hx).elim⟩
theorem J8{b:Bool}(h:b=false):¬(b=true):=by rw[h];decide
theorem K7{α β:Type}(x:α)(ts:List Tok)(f:α->List Tok->E β):S3 (.ok (x,ts)) f=f x ts:=rfl
theorem a5h{β:Type}{k:Int}{s:B}{ts:List Tok}{f:List Tok->E β}(h:isM k s ts=true):a0P k s ts f=f ts.tail:=by unfold a0P;rw[h];rfl
theorem a5o{β:Type}{k:Int}{s:B}{ts:List Tok}{f:List Tok->E β}(h:isM k s ts=false):a0P k s ts f=.error 110:=by unfold a0P;rw[h];rfl
theorem b9M(ts:List Tok):(ts.headD zeroK)=ts.getD 0 zeroK:=by cases ts<;>rfl
theorem c7Z(k:Int)(s:B)(ts:List Tok):isM k s ts=((decide ((ts.length:Int)>0)&&((ts.getD 0 zeroK).kind==k))&&((ts.getD 0 zeroK).text==s)):=by
 cases ts with
 |nil=>rfl
 |cons t r=>have h1:decide (((t::r).length:Int)>0)=true:=decide_eq_true (by simp only[List.length_cons];omega);rw[h1];rfl
theorem N3(s:B)(h:List Res)(m:View):CT prog 77 [str s] h m (A7 h (O4 ⟨2,0,s,0⟩)):=by
 refine cB [0,2] func77 λ_=>?_;refine xW λb2=>?_
 refine ZZ [0,3,0] ?_;refine WC.ret (a2V (h':=h) (.inl rfl) rfl (G4 M4 rfl rfl rfl Me rfl) Vl Sb ?_);exact⟨rfl,rfl⟩
theorem K0(s:B)(h:List Res)(m:View):CT prog 78 [str s] h m (A7 h (O4 ⟨5,0,s,0⟩)):=by
 refine cB [0,2] func78 λ_=>?_;refine xW λb2=>?_
 refine ZZ [0,3,0] ?_;refine WC.ret (a2V (h':=h) (.inl rfl) rfl (G4 M4 rfl rfl rfl Me rfl) Vl Sb ?_);exact⟨rfl,rfl⟩
theorem K9(h:List Res)(m:View):CX prog 52 [] h m (λ_ _ _=>False) (λv h'=>v=wrV 110/\h'=h):=by
 refine xB [] func52 λ_=>?_;refine kA1 ?_;refine xG (a0h b8K Et) ?_;refine WL.panic Et (a2R (P:=prog) (fn:=Tryz.f52) (h) Vl Sb ?_);exact⟨rfl,rfl⟩
theorem a4i(b:Nat)(a:Option Addr)(c:Nat)(ts:List Tok)(u:Tok)(h hT:List Res){m:View}(hb:lnR b a ts.length c∈h)(hk:Tk2 m hT a c ts)(hs:hT.Sublist h) :
 CT prog 188 [ptV b,O4 u] h m (A7 h (.bool (isM u.kind u.text ts))):=by
 have hrd:=(hk.mono hs).k.rd;obtain⟨t,ht⟩:∃t,t=ts.getD 0 zeroK:=⟨_,rfl⟩;have hel:0<ts.length->ts[0]?=some t:=λhq=>by rw[ht,List.getD_eq_getElem?_getD,List.getElem?_eq_getElem hq];rfl
 refine cB [0,3,4] func188 λ_=>?_;refine xX λb3=>?_
 refine Z1 ?_;refine dS [] (.op 0 (.op 1 (.op 2 (.op 3 (.op 4 (.op 5 (.op 6 (.op 7 (.op 8 (.op 9 (.op 10 (.op 11 (.op 12 (.op 13 (.op 14 (.op 15 (.op 16 (.op 17 (.op 18 (.op 19 (.op 20 (.op 21 (.op 22 (.op 23 (.op 24 (.op 25 (.op 26 (.op 27 .nil)))))))))))))))))))))))))))) [28,29,30] C4 ?_;refine kA3 ?_;refine yG rfl (E9 a4J rfl Et (List.mem_cons_of_mem _ hb) rfl) ?_;refine yG rfl (Y8 a4J Et) ?_;refine yG rfl (P0 Et Ek rfl) ?_;refine kA1 ?_;refine C0 rfl rfl (GU.t rfl rfl) (λhc=>PO.move Et) Lb ?_;refine C0 rfl rfl (GU.t rfl rfl) (λhc=>PO.nilCheck (Eg hc)) Lb ?_;refine C0 rfl rfl (GU.t rfl rfl) (λhc=>PO.fieldAddr c0A rfl (Nat.ne_of_beq_eq_false rfl) (Eg hc)) Lb ?_;refine C0 rfl rfl (GU.t rfl rfl) (λhc=>E9 a4J rfl (Eg hc) (List.mem_cons_of_mem _ hb) rfl) Lb ?_
 refine C0 rfl rfl (GU.t rfl rfl) (λhc=>D8 B3.und B3.size B3.posz (Eg hc) Ek Rr rfl (q:=0) (by simp at hc;omega)) Lb ?_;refine C0 rfl rfl (GU.t rfl rfl) (λhc=>G6 M4 rfl (Nat.ne_of_beq_eq_false rfl) B8 (Nat.succ_pos _) Rr (hel (by simp at hc;omega)) (Eg hc)) Lb ?_;refine C0 rfl rfl (GU.t rfl rfl) (λhc=>G8 b4X rfl B8 Rr (Eg hc) (hel (by simp at hc;omega)) rfl) Lb ?_;refine kA2 ?_;refine C0 rfl rfl (GU.t rfl rfl) (λhc=>P0 (Eg hc) (Eg hc) rfl) Lb ?_;refine kA2 ?_;refine C0 rfl rfl (GU.t rfl rfl) (λhc=>PO.move Et) Lb ?_;refine C0 rfl rfl (GU.t rfl rfl) (λhc=>PO.nilCheck (Eg hc)) Lb ?_;refine C0 rfl rfl (GU.t rfl rfl) (λhc=>PO.fieldAddr c0A rfl (Nat.ne_of_beq_eq_false rfl) (Eg hc)) Lb ?_;refine C0 rfl rfl (GU.t rfl rfl) (λhc=>E9 a4J rfl (Eg hc) (List.mem_cons_of_mem _ hb) rfl) Lb ?_
 refine C0 rfl rfl (GU.t rfl rfl) (λhc=>D8 B3.und B3.size B3.posz (Eg hc) Ek Rr rfl (q:=0) (by simp at hc;omega)) Lb ?_;refine C0 rfl rfl (GU.t rfl rfl) (λhc=>G6 M4 rfl (Nat.ne_of_beq_eq_false rfl) B8 (Nat.succ_pos _) Rr (hel (by simp at hc;omega)) (Eg hc)) Lb ?_;refine C0 rfl rfl (GU.t rfl rfl) (λhc=>G8 uu9 rfl B8 Rr (Eg hc) (hel (by simp at hc;omega)) rfl) Lb ?_;refine kA2 ?_;refine SR.nil rfl rfl ?_;refine zG (λhc=>H3 (Eg hc) (Eg hc)) ?_;refine Z2 ?_;refine wT h ?_;exact⟨by rw[c7Z,<-ht],rfl⟩
theorem O2(b:Nat)(a:Option Addr)(c:Nat)(ts:List Tok)(u:Tok)(h hT:List Res){m:View}(hk:Tk2 m hT a c ts)(hs:hT.Sublist h) :
 CT prog 178 [ptV b,O4 u] (lnR b a ts.length c::h) m
  (λv _ h'=>∃a' c' r,v=.bool (isM u.kind u.text ts)/\r=(if isM u.kind u.text ts then ts.tail else ts)/\Tk2 m hT a' c' r/\h'=lnR b a' r.length c'::h):=by
 refine cB [0,3,4,8] func178 λ_=>?_;refine xX λb3=>?_
 refine ZZ [1,2] ?_;refine xf (E2 Et Et) (a4i b a c ts u _ hT Me hk (hs.trans Sb)) ?_;refine Z1 ?_;refine wc ?_ ?_<;>intro c8
 have d8:isM u.kind u.text ts=false:=by simpa using c8
 refine Z1 ?_;refine wT (lnR b a ts.length c::h) ?_;exact⟨a,c,ts,by rw[d8],by rw[d8];rfl,hk,rfl⟩;have d8:isM u.kind u.text ts=true:=by simpa using c8
 have hp:=c5a d8;refine ZZ [0,5] ?_;refine xG (a1z B3.und B3.size Et Ek (l:=1) rfl (by omega)) ?_;refine ZZ [3,1,0] ?_;refine wT (lnR b (sl1 a 1 c 4) (ts.length-1) (c-1)::h) ?_;exact⟨_,_,ts.tail,by rw[d8],by rw[d8];rfl,hk.tail hp,by rw[List.length_tail]⟩
theorem Q9(b:Nat)(a:Option Addr)(c:Nat)(ts:List Tok)(u:Tok)(a1:Option Addr)(c1:Nat)(h hT:List Res){m:View}(hk:Tk2 m hT a c ts)(hs:hT.Sublist h)(hu:Rd m h a1 1 c1 4 (fl A3 [u])) :
 CX prog 186 [ptV b,.slice a1 1 c1] (lnR b a ts.length c::h) m
  (λ_ _ h'=>isM u.kind u.text ts=true/\∃a' c',Tk2 m hT a' c' ts.tail/\h'=lnR b a' ts.tail.length c'::h) (λv h'=>isM u.kind u.text ts=false/\v=wrV 110/\h'=h):=by
 refine xB [0,5,6,7,8,9,15] func186 λ_=>?_;refine Z3 ?_;refine B1 [0,6,7] rfl (λμ F' h'=>∃j:Nat,∃x:Option Addr,∃y:Nat,∃r:List Tok,(Tk2 m hT x y r/\((j=0/\r=ts)\/(j=1/\isM u.kind u.text ts=true/\r=ts.tail)))/\1-j=μ/\F'=[(8,.int .i64 j)]/\lnR b x r.length y::h=h') (1-0) [(8,.int .i64 0)] (h0:=lnR b a ts.length c::h) ?_ Sb ⟨0,a,c,ts,⟨hk,.inl ⟨rfl,rfl⟩⟩,rfl,rfl,rfl⟩ ?_;exact Su;rintro _ _ _ ⟨j,x,y,r,⟨hk1,hJ⟩,rfl,rfl,rfl⟩;refine B2 rfl ?_;refine Z1 ?_;refine wD ?_ ?_<;>intro c9
 have hj:j=0/\r=ts:=by rcases hJ with hJ|hJ<;>first|exact hJ|(exfalso;have:=hJ.1;omega)
 obtain⟨rfl,rfl⟩:=hj;have hx:([u]:List Tok)[0]?=some u:=rfl;refine ZZ [0,2] ?_;refine xW λb5=>?_;refine ZZ [1,2] ?_;refine pD (lnR b x r.length y) ?_;refine xg (E2 Et Et) (O2 b x y r u _ hT hk1 (hs.trans Sb)) ?_;rintro _ _ ⟨a2,c2,r2,rfl,hr2,hk2,rfl⟩;refine Z1 ?_;refine wc ?_ ?_<;>intro c15
 have d15:isM u.kind u.text r=false:=by simpa using c15
 refine j0 ?_;refine A1 Ef Evs.nil (K9 _ _) Lb (λv hv hx=>?_) λv16 h16 hr16=>?_
 ·obtain⟨rfl,rfl⟩:=hx
  exact a2R (P:=prog) (fn:=Tryz.f186) h Vl Sb ⟨d15,rfl,rfl⟩
 exact hr16.elim;have d15:isM u.kind u.text r=true:=by simpa using c15
 rw[d15,if_pos rfl]at hr2;refine ZZ [0,2] ?_;refine WL.nil (A6 (1-1) [(8,.int .i64 1)] (h'':=lnR b a2 r2.length c2::h) (by omega) ?_ Su Sb ⟨1,a2,c2,r2,⟨hk2,.inr ⟨rfl,d15,hr2⟩⟩,rfl,rfl,rfl⟩);exact Su;have hj:isM u.kind u.text ts=true/\r=ts.tail:=by rcases hJ with hJ|hJ<;>first|exact hJ.2|(exfalso;have:=hJ.1;omega)
 obtain⟨h1,rfl⟩:=hj;refine WC.exit (toX (.inr rfl) (b2V (h':=lnR b x ts.tail.length y::h) (.inr rfl) rfl  Vl Sb ?_));exact⟨h1,x,y,hk1,rfl⟩
theorem c9b{ts:List Tok}{t:Tok}(ht:t=ts.getD 0 zeroK)(h:(((ts.length:Int)==0)||(t.kind !=1))=true):t.kind≠1:=by
 simp only[Bool.or_eq_true,beq_iff_eq,bne_iff_ne,ne_eq]at h;rcases h with h1|h1
 ·have h2:ts=[]:=List.eq_nil_of_length_eq_zero (by omega)
  rw[ht,h2];decide
 ·exact h1
theorem c8S{ts:List Tok}{t:Tok}(h:(((ts.length:Int)==0)||(t.kind !=1))=false):0<ts.length/\t.kind=1:=by simp only[Bool.or_eq_false_iff,beq_eq_false_iff_ne,bne_eq_false_iff_eq,ne_eq]at h;exact⟨by omega,h.2⟩
theorem a7Y{n:Nat}(h:(!((n:Int)==0))=true):0<n:=by simp at h;omega
theorem a2x(b:Nat)(a:Option Addr)(c:Nat)(ts:List Tok)(h hT:List Res){m:View}(hk:Tk2 m hT a c ts)(hs:hT.Sublist h):LnY m 179 [ptV b] b a c ts hT h (a0j ts) WN:=by
 have hrd:=(hk.mono hs).k.rd;have hq:=b4o ts;obtain⟨t,ht⟩:∃t,t=ts.getD 0 zeroK:=⟨_,rfl⟩;have hel:0<ts.length->ts[0]?=some t:=λhq=>by rw[ht,List.getD_eq_getElem?_getD,List.getElem?_eq_getElem hq];rfl
 rw[<-ht]at hq;refine xB [0,2,3,19] func179 λ_=>?_
 refine ZZ [1,8] ?_;refine zG (λhc=>PO.nilCheck (Eg hc)) ?_;refine kA2 ?_;refine zG (λhc=>D8 B3.und B3.size B3.posz (Eg hc) Ek Rr rfl (q:=0) (a7Y hc)) ?_;refine zG (λhc=>G6 M4 rfl (Nat.ne_of_beq_eq_false rfl) B8 (Nat.succ_pos _) Rr (hel (a7Y hc)) (Eg hc)) ?_;refine zG (λhc=>G8 b4X rfl B8 Rr (Eg hc) (hel (a7Y hc)) rfl) ?_;refine Z2 ?_;refine wc ?_ ?_<;>intro c19
 have d19:=c9b ht c19;rw[if_neg d19]at hq;refine j0 ?_;refine A1 Ef Evs.nil (K9 _ _) Lb (λv hv hx=>?_) λv20 h20 hr20=>?_
 ·obtain⟨rfl,rfl⟩:=hx;exact lnP Tryz.f179 hq Sb
 exact hr20.elim;have d19:=c8S c19;have hel:=hel d19.1;have htx:=hk.k.tx t (List.mem_of_getElem? hel);have hp:=d19.1;rw[if_pos d19.2]at hq;refine ZZ [0,4] ?_;refine xG (D8 B3.und B3.size B3.posz (Ev.tmp rfl) Ek Rr rfl (q:=0) (by omega)) ?_;refine ZZ [3,5] ?_;refine xG (a1z B3.und B3.size Et Ek (l:=1) rfl (by omega)) ?_;refine ZZ [3,2,0] ?_;refine xT (lnR b (sl1 a 1 c 4) (ts.length-1) (c-1)::h) ?_;exact⟨_,_,_,_,hq,⟨rfl,htx⟩,hk.tail d19.1,by rw[List.length_tail]⟩
theorem Y6{m:View}(hg:Glob m)(b:Nat)(a:Option Addr)(c:Nat)(ts:List Tok)(h hT:List Res)(hk:Tk2 m hT a c ts)(hs:hT.Sublist h):LnX m 187 [ptV b] b a c ts hT h (P5 ts) (OE m):=by
 have hq:=b5T ts;have hle:=a43 (ts:=ts);refine xB [0,2,3,4,5,16] func187 λ_=>?_;refine xW λb2=>?_
 refine ZZ [0,4] ?_;refine xg (E1 Et) (b2k hg a c ts _ (hk.k.mono (hs.trans Sb)) hk.n) ?_;rintro _ _ ⟨t11,bl,rfl,⟨hst,hU,hW⟩,rfl⟩;refine WL.perm (Mv.perm) ?_;refine kA4 ?_;refine xW λb3=>?_;refine ZZ [3,2,0] ?_;refine wN ?_ ?_<;>intro c16
 rw[if_neg c16]at hq;refine j0 ?_;refine A1 Ef Evs.nil (K9 _ _) Lb (λv hv hx=>?_) λv17 h17 hr17=>?_
 ·obtain⟨rfl,rfl⟩:=hx;exact lnP Tryz.f187 hq Sb
 exact hr17.elim;rw[if_pos c16]at hq;refine ZZ [0,6] ?_;refine xG (a1z B3.und B3.size Et Et rfl (by omega)) ?_;refine ZZ [3,2,0] ?_;refine xT (lnR b (sl1 a (a1f ts) c 4) (ts.length-a1f ts) (c-a1f ts)::(bl++h)) (h1:=cA a2i) ?_;exact⟨_,ts.drop (a1f ts),_,_,bl,hq,⟨t11,rfl,hst,hU,hW⟩,hk.drop hle,by rw[List.length_drop]⟩
theorem a1w{m:View}(hg:Glob m)(b:Nat)(a:Option Addr)(c:Nat)(ts:List Tok)(h hT:List Res)(hk:Tk2 m hT a c ts)(hs:hT.Sublist h):LnX m 190 [ptV b] b a c ts hT h (N8 ts) (OE m):=by
 have hrd:=(hk.mono hs).k.rd;obtain⟨t,ht⟩:∃t,t=ts.getD 0 zeroK:=⟨_,rfl⟩;have hel:0<ts.length->ts[0]?=some t:=λhq=>by rw[ht,List.getD_eq_getElem?_getD,List.getElem?_eq_getElem hq];rfl
 have hq:=a8l ts;rw[<-ht]at hq;refine xB [0,2,3,19,25] func190 λ_=>?_
 refine xW λb2=>?_;refine ZZ [0,8] ?_;refine zG (λhc=>PO.nilCheck (Eg hc)) ?_;refine kA2 ?_;refine zG (λhc=>D8 B3.und B3.size B3.posz (Eg hc) Ek Rr rfl (q:=0) (a7Y hc)) ?_;refine zG (λhc=>G6 M4 rfl (Nat.ne_of_beq_eq_false rfl) B8 (Nat.succ_pos _) Rr (hel (a7Y hc)) (Eg hc)) ?_;refine zG (λhc=>G8 b4X rfl B8 Rr (Eg hc) (hel (a7Y hc)) rfl) ?_;refine Z2 ?_;refine wc ?_ ?_<;>intro c19
 have d19:=c9b ht c19;rw[if_neg d19]at hq;refine j0 ?_;refine A1 Ef Evs.nil (K9 _ _) Lb (λv hv hx=>?_) λv20 h20 hr20=>?_
 ·obtain⟨rfl,rfl⟩:=hx;exact lnP Tryz.f190 hq Sb
 exact hr20.elim;have d19:=c8S c19;rw[if_pos d19.2]at hq;refine ZZ [0,1] ?_;refine pD (lnR b a ts.length c) ?_;refine A1 Ef (E1 Et) (Y6 hg b a c ts _ _ hk (hs.trans Sb)) Lb (λv hv hx=>?_) λv22 h22 hr22=>?_
 ·obtain⟨e,hx1,rfl,rfl⟩:=hx;rw[hx1]at hq;exact lnP Tryz.f190 hq Sb
 obtain⟨x22,r22,a22,u22,bl22,hM22,⟨t22,rfl,rfl,hO22⟩,hk22,rfl⟩:=hr22;refine WL.perm ((Mv.perm).cons _) ?_;rw[hM22,K7]at hq;refine xW λb3=>?_
 refine ZZ [1,1] ?_;refine xf (E1 Et) (a5H hg t22 (hO22.mono Sb)) ?_;refine Z1 ?_;refine wc ?_ ?_<;>intro c25
 have d25:F5 (C6 t22)=false:=by rw[a0H];simpa using c25
 rw[if_neg (J8 d25)]at hq;refine j0 ?_;refine A1 Ef Evs.nil (K9 _ _) Lb (λv hv hx=>?_) λv26 h26 hr26=>?_
 ·obtain⟨rfl,rfl⟩:=hx;exact lnP Tryz.f190 hq Sb
 exact hr26.elim;have d25:F5 (C6 t22)=true:=by rw[a0H];simpa using c25
 rw[if_pos d25]at hq;refine ZZ [0,2,0] ?_;refine xT (lnR b a22 r22.length u22::(bl22++h)) (h1:=cA a2i) ?_;exact⟨_,_,_,_,bl22,hq,⟨t22,rfl,rfl,hO22⟩,hk22,rfl⟩
theorem b3g{m:View}(hg:Glob m)(b:Nat)(a:Option Addr)(c:Nat)(ts:List Tok)(h hT:List Res)(hk:Tk2 m hT a c ts)(hs:hT.Sublist h):LnY m 185 [ptV b] b a c ts hT h (b0a ts) WT:=by
 have hq:b0a ts=if(Go.Ty.front ts).2.2=0 then .ok ((Go.Ty.front ts).1,ts.drop (Go.Ty.front ts).2.1)else .error 110:=rfl
 have hle:=c8q ts;refine xB [0,2,3,4,5,16] func185 λ_=>?_;refine xW λb2=>?_
 refine ZZ [0,4] ?_;refine xf (E1 Et) (Ty9.front_ct a _ c ts _ _ hg (hk.k.mono (hs.trans Sb)).rd hk.ok) ?_;refine kA4 ?_;refine xW λb3=>?_;refine ZZ [3,2,0] ?_;refine wN ?_ ?_<;>intro c16
 rw[if_neg c16]at hq;refine j0 ?_;refine A1 Ef Evs.nil (K9 _ _) Lb (λv hv hx=>?_) λv17 h17 hr17=>?_
 ·obtain⟨rfl,rfl⟩:=hx;exact lnP Tryz.f185 hq Sb
 exact hr17.elim;rw[if_pos c16]at hq;refine ZZ [0,6] ?_;refine xG (a1z B3.und B3.size Et Et rfl (by omega)) ?_;refine ZZ [3,2,0] ?_;refine xT (lnR b (sl1 a (Go.Ty.front ts).2.1 c 4) (ts.length-(Go.Ty.front ts).2.1) (c-(Go.Ty.front ts).2.1)::h) (h1:=cA a8H) ?_;exact⟨_,_,_,_,hq,⟨rfl,c9e ts⟩,hk.drop hle,by rw[List.length_drop]⟩
theorem b8E{m:View}(hg:Glob m)(b:Nat)(a:Option Addr)(c:Nat)(ts:List Tok)(h hT:List Res)(hk:Tk2 m hT a c ts)(hs:hT.Sublist h):LnY m 265 [ptV b] b a c ts hT h (a6Z ts) WI:=by
 have hq:a6Z ts=S3 (b0a ts) λt r=>if X3 t then .ok (t.kind,r)else .error 110:=rfl
 refine xB [0,2,3,8] func265 λ_=>?_;refine ZZ [1,1] ?_;refine pD (lnR b a ts.length c) ?_;refine A1 Ef (E1 Et) (b3g hg b a c ts _ _ hk (hs.trans Sb)) Lb (λv hv hx=>?_) λv5 h5 hr5=>?_
 ·obtain⟨e,hx1,rfl,rfl⟩:=hx;rw[hx1]at hq;exact lnP Tryz.f265 hq Sb
 obtain⟨x5,r5,a5,u5,hM5,⟨rfl,hw5⟩,hk5,rfl⟩:=hr5;rw[hM5,K7]at hq;refine xW λb3=>?_
 refine ZZ [1,1] ?_;refine xf (E1 Et) (a7e x5 _ _ hg (Nat.le_trans hw5.p (by decide))) ?_;refine Z1 ?_;refine wc ?_ ?_<;>intro c8
 have d8:X3 x5=false:=by simpa using c8
 rw[if_neg (J8 d8)]at hq;refine j0 ?_;refine A1 Ef Evs.nil (K9 _ _) Lb (λv hv hx=>?_) λv9 h9 hr9=>?_
 ·obtain⟨rfl,rfl⟩:=hx;exact lnP Tryz.f265 hq Sb
 exact hr9.elim;have d8:X3 x5=true:=by simpa using c8
 rw[if_pos d8]at hq;refine ZZ [0,3,0] ?_;refine xT (lnR b a5 r5.length u5::h) ?_;exact⟨_,_,_,_,hq,⟨rfl,hw5.k⟩,hk5,rfl⟩
theorem b9m{m:View}(hg:Glob m)(b:Nat)(a:Option Addr)(c:Nat)(ts:List Tok)(h hT:List Res)(hk:Tk2 m hT a c ts)(hs:hT.Sublist h):LnY m 182 [ptV b] b a c ts hT h (a5O ts) WF:=by
 have hq:a5O ts=S3 (b0a (if isM 2 [86,65,76] ts then ts.tail else ts)) λt r=>S3 (a0j r) λn r=>if foP ⟨isM 2 [86,65,76] ts,t,n⟩then .ok (⟨isM 2 [86,65,76] ts,t,n⟩,r)else .error 110:=rfl
 refine xB [0,2,3,16] func182 λ_=>?_;refine xW λb2=>?_
 refine ZZ [0,1] ?_;refine xf (E1 Ek) (N3 _ _ _) ?_;refine pD (lnR b a ts.length c) ?_;refine xg (E2 Et Et) (O2 b a c ts _ _ _ hk (hs.trans Sb)) ?_;rintro _ _ ⟨a6,u6,r6,rfl,he6,hk6,rfl⟩;rw[<-he6]at hq;refine kA1 ?_;refine xW λb3=>?_
 refine ZZ [1,1] ?_;refine pD (lnR b a6 r6.length u6) ?_;refine A1 Ef (E1 Et) (b3g hg b a6 u6 r6 _ _ hk6 (hs.trans Sb)) Lb (λv hv hx=>?_) λv9 h9 hr9=>?_
 ·obtain⟨e,hx1,rfl,rfl⟩:=hx;rw[hx1]at hq;exact lnP Tryz.f182 hq Sb
 obtain⟨x9,r9,a9,u9,hM9,⟨rfl,hw9⟩,hk9,rfl⟩:=hr9;rw[hM9,K7]at hq;refine ZZ [2,1] ?_;refine pD (lnR b a9 r9.length u9) ?_;refine A1 Ef (E1 Et) (a2x b a9 u9 r9 _ _ hk9 (hs.trans Sb)) Lb (λv hv hx=>?_) λv12 h12 hr12=>?_
 ·obtain⟨e,hx1,rfl,rfl⟩:=hx;rw[hx1]at hq;exact lnP Tryz.f182 hq Sb
 obtain⟨x12,r12,a12,u12,hM12,⟨rfl,hw12⟩,hk12,rfl⟩:=hr12;rw[hM12,K7]at hq;refine ZZ [2,1] ?_;refine xf (E1 Et) (c0s hg ⟨isM 2 [86,65,76] ts,x9,x12⟩ ⟨hw9,hw12⟩) ?_;refine Z1 ?_;refine wc ?_ ?_<;>intro c16
 have d16:foP ⟨isM 2 [86,65,76] ts,x9,x12⟩=false:=by simpa using c16
 rw[if_neg (J8 d16)]at hq;refine j0 ?_;refine A1 Ef Evs.nil (K9 _ _) Lb (λv hv hx=>?_) λv17 h17 hr17=>?_
 ·obtain⟨rfl,rfl⟩:=hx;exact lnP Tryz.f182 hq Sb
 exact hr17.elim;have d16:foP ⟨isM 2 [86,65,76] ts,x9,x12⟩=true:=by simpa using c16
 rw[if_pos d16]at hq;refine ZZ [0,2,0] ?_;refine xT (lnR b a12 r12.length u12::h) (h1:=cA b2i) ?_;exact⟨_,_,_,_,hq,⟨rfl,hw9,hw12⟩,hk12,rfl⟩
theorem c3T{m:View}(hg:Glob m)(b:Nat)(a:Option Addr)(c:Nat)(ts:List Tok)(h hT:List Res)(hk:Tk2 m hT a c ts)(hs:hT.Sublist h):LnX m 334 [ptV b] b a c ts hT h (b6i ts) (OR m):=by
 have hq:b6i ts=if ts.isEmpty then .ok (F2,ts)else S3 (a0j ts) λn r=>a0P 5 [61] r λr=>S3 (P5 r) λb r=>a0P 2 [70,79,82] r λr=>S3 (P5 r) λc r=>.ok (⟨n,b,c⟩,r):=rfl
 refine xB [0,2,3,9] func334 λ_=>?_;refine xW λb2=>?_
 refine ZZ [0,6,0] ?_;refine wE ?_ ?_<;>intro c9
 have d9:ts.isEmpty=true:=by rw[List.isEmpty_iff];exact List.eq_nil_of_length_eq_zero (by omega)
 rw[if_pos d9]at hq;refine Z2 ?_;refine xT (lnR b a ts.length c::h) (h1:=cA c6j) ?_;exact⟨_,_,_,_,[],hq,⟨⟨[],A2,A2⟩,rfl,rfl,Nat.zero_le _,H5 _ _,H5 _ _⟩,hk,rfl⟩;have d9:ts.isEmpty=false:=by cases ts with|nil=>exact absurd rfl c9|cons=>rfl
 rw[if_neg (J8 d9)]at hq;refine ZZ [0,1] ?_;refine pD (lnR b a ts.length c) ?_;refine A1 Ef (E1 Et) (a2x b a c ts _ _ hk (hs.trans Sb)) Lb (λv hv hx=>?_) λv12 h12 hr12=>?_
 ·obtain⟨e,hx1,rfl,rfl⟩:=hx;rw[hx1]at hq;exact lnP Tryz.f334 hq Sb
 obtain⟨x12,r12,a12,u12,hM12,⟨rfl,hw12⟩,hk12,rfl⟩:=hr12;rw[hM12,K7]at hq;refine kA1 ?_;refine xW λb3=>?_
 refine ZZ [1,1] ?_;refine xf (E1 Ek) (K0 _ _ _) ?_;refine xY B3 Eb λb16=>?_;refine pD (lnR b a12 r12.length u12) ?_;refine A1 Ef (E2 Et Et) (Q9 b a12 u12 r12 _ _ _ _ _ hk12 (hs.trans Sb) (Rd.ofPt rfl (by decide) Me)) Lb (λv hv hx=>?_) λv17 h17 hr17=>?_
 ·obtain⟨hx1,rfl,rfl⟩:=hx;exact lnP Tryz.f334 (hq.trans (a5o hx1)) Sb
 obtain⟨hi17,a17,u17,hk17,rfl⟩:=hr17;rw[a5h hi17]at hq;refine ZZ [0,1] ?_;refine pD (lnR b a17 r12.tail.length u17) ?_;refine A1 Ef (E1 Et) (Y6 hg b a17 u17 r12.tail _ _ hk17 (hs.trans Sb)) Lb (λv hv hx=>?_) λv19 h19 hr19=>?_
 ·obtain⟨e,hx1,rfl,rfl⟩:=hx;rw[hx1]at hq;exact lnP Tryz.f334 hq Sb
 obtain⟨x19,r19,a19,u19,bl19,hM19,⟨t19,rfl,rfl,hO19⟩,hk19,rfl⟩:=hr19;refine WL.perm ((Mv.perm).cons _) ?_;rw[hM19,K7]at hq;refine ZZ [2,1] ?_;refine xf (E1 Ek) (N3 _ _ _) ?_;refine xY B3 Eb λb23=>?_
 refine pD (lnR b a19 r19.length u19) ?_;refine A1 Ef (E2 Et Et) (Q9 b a19 u19 r19 _ _ _ _ _ hk19 (hs.trans Sb) (Rd.ofPt rfl (by decide) Me)) Lb (λv hv hx=>?_) λv24 h24 hr24=>?_
 ·obtain⟨hx1,rfl,rfl⟩:=hx;exact lnP Tryz.f334 (hq.trans (a5o hx1)) Sb
 obtain⟨hi24,a24,u24,hk24,rfl⟩:=hr24;rw[a5h hi24]at hq;refine ZZ [0,1] ?_;refine pD (lnR b a24 r19.tail.length u24) ?_;refine A1 Ef (E1 Et) (Y6 hg b a24 u24 r19.tail _ _ hk24 (hs.trans Sb)) Lb (λv hv hx=>?_) λv26 h26 hr26=>?_
 ·obtain⟨e,hx1,rfl,rfl⟩:=hx;rw[hx1]at hq;exact lnP Tryz.f334 hq Sb
 obtain⟨x26,r26,a26,u26,bl26,hM26,⟨t26,rfl,rfl,hO26⟩,hk26,rfl⟩:=hr26;refine WL.perm ((Mv.perm).cons _) ?_;rw[hM26,K7]at hq;refine ZZ [2,2,0] ?_;refine xT (lnR b a26 r26.length u26::(bl26++(bl19++h))) (h1:=cA c6j) ?_;exact⟨_,_,_,_,bl26++bl19,hq,⟨⟨x12,t19,t26⟩,rfl,rfl,hw12,hO19.mono (List.sublist_append_right _ _),hO26.mono (List.sublist_append_left _ _)⟩,hk26,by rw[List.append_assoc]⟩
end
section
open Go.Eng Go.Pc Go.Sx Go
open Go.Xp hiding B C9
open Go.Ty (Ty Vr Tok eqT tyV I7 A3 B8 O4 zeroK M8 D3)
open Go.Lx (encB encB_len)
abbrev OL(m:View)(l:List Ex)(v:Value)(bl:List Res):Prop:=∃s:Sli Ex,v=.slice s.a s.l.length s.c/\s.l.map C6=l/\LOk m bl s
abbrev OLs{α:Type}(m:View)(enc:α->List Value)(sz:Nat)(W:α->Prop)(l:List α)(v:Value)(bl:List Res):Prop:=∃a c,v=.slice a l.length c/\Rd m bl a l.length c sz (fl enc l)/\∀x∈l,W x
abbrev WB(s:B):Prop:=s.length<=Big
abbrev WK(k:Int):Prop:=0<=k/\k<=255
theorem a6K{α:Type}{take:List Tok->E α}{sep:B}{n:Nat}{acc:List α}{ts:List Tok}(h:isM 5 sep ts=false):a3I take sep n acc ts=.ok (acc,ts):=by cases n<;>(unfold a3I;rw[if_neg (J8 h)])
theorem a5W{α:Type}{take:List Tok->E α}{sep:B}{acc:List α}{ts:List Tok}(h:isM 5 sep ts=true):a3I take sep 0 acc ts=.error 110:=by unfold a3I;rw[if_pos h]
theorem a6i{α:Type}{take:List Tok->E α}{sep:B}{n:Nat}{acc:List α}{ts:List Tok}(h:isM 5 sep ts=true):a3I take sep (n+1) acc ts=S3 (take ts.tail) λx r=>a3I take sep n (acc++[x]) r:=by
 conv=>lhs;unfold a3I
 rw[if_pos h]
theorem a0u{α:Type}{p:α->Prop}{l:List α}{x:α}(h:∀y∈l,p y)(hx:p x):∀y∈l++[x],p y:=λy hy=>by
 rcases List.mem_append.1 hy with h1|h1
 ·exact h y h1
 ·rw[List.mem_singleton]at h1;exact h1▸hx
theorem a1U{m:View}(q:FuncId)(take:List Tok->E Ex)(sep:B)(most:Nat)(b:Nat)(a:Option Addr)(c:Nat)(ts:List Tok)(h hT:List Res)(hk:Tk2 m hT a c ts)(hs:hT.Sublist h)(h1:1<=most/\most<=100)
 (ht:∀(a:Option Addr)(c:Nat)(ts:List Tok)(h:List Res),Tk2 m hT a c ts->hT.Sublist h->LnX m q [ptV b] b a c ts hT h (take ts) (OE m)) :
 LnX m 202 [ptV b,str sep,.int .i64 most,.func (.func q) #[ptV b] #[]] b a c ts hT h (U0 take sep most ts) (OL m):=by
 have hq:U0 take sep most ts=S3 (take ts) λx r=>a3I take sep (most-1) [x] r:=rfl
 refine xB [0,1,2,3,8,9,16,20] func202 λ_=>?_;refine ZZ [1,1] ?_;refine pD (lnR b a ts.length c) ?_;refine A1 (Ev.tmp rfl) Evs.nil (ht a c ts _ hk (hs.trans Sb)) Lb (λv hv hx=>?_) λv11 h11 hr11=>?_
 ·obtain⟨e,hx1,rfl,rfl⟩:=hx;rw[hx1]at hq;exact lnP Tryz.f202 hq Sb
 obtain⟨x11,r11,a11,u11,bl11,hM11,⟨t11,rfl,rfl,hO11⟩,hk11,rfl⟩:=hr11;refine WL.perm ((Mv.perm).cons _) ?_;rw[hM11,K7]at hq;refine xY Q1 Eb λb12=>?_
 refine kA1 ?_;refine G7 (k:=1) (sz:=6) (cs:=exE t11) rfl (by decide) Up ?_;refine WL.perm (List.Perm.swap _ _ _) ?_;refine Z0 ?_;refine B1 [0,1,2,3] rfl (λμ F' h'=>∃a9:Option Addr,∃c9:Nat,∃l:List Ex,∃bl:List Res,∃x:Option Addr,∃y:Nat,∃r:List Tok,((1<=l.length/\l.length<=most)/\Tk2 m hT x y r/\(∀z∈l,EOk m bl z)/\U0 take sep most ts=a3I take sep (most-l.length) (l.map C6) r)/\most-l.length=μ/\F'=[(9,.slice a9 l.length c9)]/\lnR b x r.length y::.row (.slice a9 l.length c9) 28 6 l.length (fl exE l)::(bl++h)=h') (most-([t11]).length) [(9,.slice (some ⟨b12,0,none⟩) ([t11]).length 1)] (h0:=lnR b a11 r11.length u11::.row (.slice (some ⟨b12,0,none⟩) ([t11]).length 1) 28 6 ([t11]).length (fl exE ([t11]))::(bl11++h)) ?_ Sb ⟨some ⟨b12,0,none⟩,1,[t11],bl11,a11,u11,r11,⟨⟨Nat.le_refl _,h1.1⟩,hk11,λz hz=>by rw[List.mem_singleton]at hz;subst hz;exact hO11,hq⟩,rfl,rfl,rfl⟩ ?_
 exact Su;rintro _ _ _ ⟨a9,c9,l,bl,x,y,r,⟨⟨hl1,hl2⟩,hk1,hW,hJ⟩,rfl,rfl,rfl⟩;refine B2 rfl ?_;refine kA2 ?_;refine xf (E1 Et) (K0 _ _ _) ?_;refine pD (lnR b x r.length y) ?_;refine xg (E2 Et Et) (O2 b x y r _ _ _ hk1 (hs.trans Sb)) ?_;rintro _ _ ⟨a16,u16,r16,rfl,he16,hk16,rfl⟩;refine Z0 ?_;refine wc ?_ ?_<;>intro c16
 replace he16:=he16.trans (if_pos c16);subst r16;refine ZZ [0,4,0] ?_;refine wE ?_ ?_<;>intro c20
 have e20:most-l.length=0:=by omega
 have hq:U0 take sep most ts=.error 110:=by rw[hJ,e20];exact a5W c16
 refine j0 ?_;refine A1 Ef Evs.nil (K9 _ _) Lb (λv hv hx=>?_) λv21 h21 hr21=>?_
 ·obtain⟨rfl,rfl⟩:=hx;exact lnP Tryz.f202 hq Sb
 exact hr21.elim;obtain⟨n,hn⟩:∃n,most-l.length=n+1:=⟨most-l.length-1,by omega⟩;rw[hn]at hJ;have hq:=hJ.trans (a6i c16);refine ZZ [0,2] ?_;refine pD (lnR b a16 r.tail.length u16) ?_;refine A1 (Ev.tmp rfl) Evs.nil (ht a16 u16 r.tail _ hk16 (hs.trans Sb)) Lb (λv hv hx=>?_) λv24 h24 hr24=>?_
 ·obtain⟨e,hx1,rfl,rfl⟩:=hx;rw[hx1]at hq;exact lnP Tryz.f202 hq Sb
 obtain⟨x24,r24,a24,u24,bl24,hM24,⟨t24,rfl,rfl,hO24⟩,hk24,rfl⟩:=hr24;refine WL.perm ((Mv.perm).cons _) ?_;rw[hM24,K7]at hq;have hln:(l++[t24]).length=l.length+1:=List.length_append;have hn2:most-(l++[t24]).length=n:=by omega
 refine xY Q1 Eb λb25=>?_;refine xD Q1 (Ev.tmp rfl) (Ev.tmp rfl) (show l.length+1=(l++[t24]).length by simp) (D4 (enc:=exE) _ (t24)) λa26 c26=>?_
 refine kA1 ?_;rw[<-List.append_assoc bl24 bl h];refine WL.nil (A6 (most-(l++[t24]).length) [(9,.slice a26 (l++[t24]).length c26)] (h'':=lnR b a24 r24.length u24::.row (.slice a26 (l++[t24]).length c26) 28 6 (l++[t24]).length (fl exE (l++[t24]))::((bl24++bl)++h)) (by omega) ?_ Su Sb ⟨a26,c26,l++[t24],bl24++bl,a24,u24,r24,⟨⟨by omega,by omega⟩,hk24,a0u (λz hz=>(hW z hz).mono (List.sublist_append_right _ _)) (hO24.mono (List.sublist_append_left _ _)),by rw[hn2,List.map_append];exact hq⟩,rfl,rfl,rfl⟩);exact Su;replace he16:=he16.trans (if_neg (J8 c16));subst r16;rw[a6K c16]at hJ;refine Q7 (a:=a9) Me λp9 q9 r9=>?_
 refine ZZ [0,2,0] ?_;refine xT (lnR b a16 r.length u16::.row (.slice a9 l.length c9) 28 6 l.length (fl exE l)::(bl++h)) ?_;exact⟨_,r,_,_,.row (.slice a9 l.length c9) 28 6 l.length (fl exE l)::bl,hJ,⟨⟨a9,c9,l⟩,rfl,rfl,Rd.inRow (List.Mem.head _) r9 p9 q9,λz hz=>(hW z hz).mono (List.sublist_cons_self _ _)⟩,hk16,rfl⟩
theorem c2O{m:View}(q:FuncId)(take:List Tok->E B)(sep:B)(most:Nat)(b:Nat)(a:Option Addr)(c:Nat)(ts:List Tok)(h hT:List Res)(hk:Tk2 m hT a c ts)(hs:hT.Sublist h)(h1:1<=most/\most<=100)
 (ht:∀(a:Option Addr)(c:Nat)(ts:List Tok)(h:List Res),Tk2 m hT a c ts->hT.Sublist h->LnY m q [ptV b] b a c ts hT h (take ts) WN) :
 LnX m 189 [ptV b,str sep,.int .i64 most,.func (.func q) #[ptV b] #[]] b a c ts hT h (U0 take sep most ts) (OLs m encB 1 WB):=by
 have hq:U0 take sep most ts=S3 (take ts) λx r=>a3I take sep (most-1) [x] r:=rfl
 refine xB [0,1,2,3,8,9,16,20] func189 λ_=>?_;refine ZZ [1,1] ?_;refine pD (lnR b a ts.length c) ?_;refine A1 (Ev.tmp rfl) Evs.nil (ht a c ts _ hk (hs.trans Sb)) Lb (λv hv hx=>?_) λv11 h11 hr11=>?_
 ·obtain⟨e,hx1,rfl,rfl⟩:=hx;rw[hx1]at hq;exact lnP Tryz.f189 hq Sb
 obtain⟨x11,r11,a11,u11,hM11,⟨rfl,hw11⟩,hk11,rfl⟩:=hr11;rw[hM11,K7]at hq;refine xY P6 Eb λb12=>?_
 refine kA1 ?_;refine G7 (k:=1) (sz:=1) (cs:=encB x11) rfl (by decide) Up ?_;refine WL.perm (List.Perm.swap _ _ _) ?_;refine Z0 ?_;refine B1 [0,1,2,3] rfl (λμ F' h'=>∃a9:Option Addr,∃c9:Nat,∃l:List B,∃x:Option Addr,∃y:Nat,∃r:List Tok,((1<=l.length/\l.length<=most)/\Tk2 m hT x y r/\(∀z∈l,WB z)/\U0 take sep most ts=a3I take sep (most-l.length) l r)/\most-l.length=μ/\F'=[(9,.slice a9 l.length c9)]/\lnR b x r.length y::.row (.slice a9 l.length c9) 9 1 l.length (fl encB l)::h=h') (most-([x11]).length) [(9,.slice (some ⟨b12,0,none⟩) ([x11]).length 1)] (h0:=lnR b a11 r11.length u11::.row (.slice (some ⟨b12,0,none⟩) ([x11]).length 1) 9 1 ([x11]).length (fl encB ([x11]))::h) ?_ Sb ⟨some ⟨b12,0,none⟩,1,[x11],a11,u11,r11,⟨⟨Nat.le_refl _,h1.1⟩,hk11,λz hz=>by rw[List.mem_singleton]at hz;subst hz;exact hw11,hq⟩,rfl,rfl,rfl⟩ ?_;exact Su
 rintro _ _ _ ⟨a9,c9,l,x,y,r,⟨⟨hl1,hl2⟩,hk1,hW,hJ⟩,rfl,rfl,rfl⟩;refine B2 rfl ?_;refine kA2 ?_;refine xf (E1 Et) (K0 _ _ _) ?_;refine pD (lnR b x r.length y) ?_;refine xg (E2 Et Et) (O2 b x y r _ _ _ hk1 (hs.trans Sb)) ?_;rintro _ _ ⟨a16,u16,r16,rfl,he16,hk16,rfl⟩;refine Z0 ?_;refine wc ?_ ?_<;>intro c16
 replace he16:=he16.trans (if_pos c16);subst r16;refine ZZ [0,4,0] ?_;refine wE ?_ ?_<;>intro c20
 have e20:most-l.length=0:=by omega
 have hq:U0 take sep most ts=.error 110:=by rw[hJ,e20];exact a5W c16
 refine j0 ?_;refine A1 Ef Evs.nil (K9 _ _) Lb (λv hv hx=>?_) λv21 h21 hr21=>?_
 ·obtain⟨rfl,rfl⟩:=hx;exact lnP Tryz.f189 hq Sb
 exact hr21.elim;obtain⟨n,hn⟩:∃n,most-l.length=n+1:=⟨most-l.length-1,by omega⟩;rw[hn]at hJ;have hq:=hJ.trans (a6i c16);refine ZZ [0,2] ?_;refine pD (lnR b a16 r.tail.length u16) ?_;refine A1 (Ev.tmp rfl) Evs.nil (ht a16 u16 r.tail _ hk16 (hs.trans Sb)) Lb (λv hv hx=>?_) λv24 h24 hr24=>?_
 ·obtain⟨e,hx1,rfl,rfl⟩:=hx;rw[hx1]at hq;exact lnP Tryz.f189 hq Sb
 obtain⟨x24,r24,a24,u24,hM24,⟨rfl,hw24⟩,hk24,rfl⟩:=hr24;rw[hM24,K7]at hq;have hln:(l++[x24]).length=l.length+1:=List.length_append;have hn2:most-(l++[x24]).length=n:=by omega
 refine xY P6 Eb λb25=>?_;refine xD P6 (Ev.tmp rfl) (Ev.tmp rfl) (show l.length+1=(l++[x24]).length by simp) (D4 (enc:=encB) _ (x24)) λa26 c26=>?_
 refine kA1 ?_;refine WL.nil (A6 (most-(l++[x24]).length) [(9,.slice a26 (l++[x24]).length c26)] (h'':=lnR b a24 r24.length u24::.row (.slice a26 (l++[x24]).length c26) 9 1 (l++[x24]).length (fl encB (l++[x24]))::h) (by omega) ?_ Su Sb ⟨a26,c26,l++[x24],a24,u24,r24,⟨⟨by omega,by omega⟩,hk24,a0u hW hw24,by rw[hn2];exact hq⟩,rfl,rfl,rfl⟩);exact Su;replace he16:=he16.trans (if_neg (J8 c16));subst r16;rw[a6K c16]at hJ;refine Q7 (a:=a9) Me λp9 q9 r9=>?_
 refine ZZ [0,2,0] ?_;refine xT (lnR b a16 r.length u16::.row (.slice a9 l.length c9) 9 1 l.length (fl encB l)::h) ?_;exact⟨_,r,_,_,[.row (.slice a9 l.length c9) 9 1 l.length (fl encB l)],hJ,⟨a9,c9,rfl,Rd.inRow (List.Mem.head _) r9 p9 q9,hW⟩,hk16,rfl⟩
theorem b4u{m:View}(q:FuncId)(take:List Tok->E Int)(sep:B)(most:Nat)(b:Nat)(a:Option Addr)(c:Nat)(ts:List Tok)(h hT:List Res)(hk:Tk2 m hT a c ts)(hs:hT.Sublist h)(h1:1<=most/\most<=100)
 (ht:∀(a:Option Addr)(c:Nat)(ts:List Tok)(h:List Res),Tk2 m hT a c ts->hT.Sublist h->LnY m q [ptV b] b a c ts hT h (take ts) WI) :
 LnX m 264 [ptV b,str sep,.int .i64 most,.func (.func q) #[ptV b] #[]] b a c ts hT h (U0 take sep most ts) (OLs m M8 1 WK):=by
 have hq:U0 take sep most ts=S3 (take ts) λx r=>a3I take sep (most-1) [x] r:=rfl
 refine xB [0,1,2,3,8,9,16,20] func264 λ_=>?_;refine ZZ [1,1] ?_;refine pD (lnR b a ts.length c) ?_;refine A1 (Ev.tmp rfl) Evs.nil (ht a c ts _ hk (hs.trans Sb)) Lb (λv hv hx=>?_) λv11 h11 hr11=>?_
 ·obtain⟨e,hx1,rfl,rfl⟩:=hx;rw[hx1]at hq;exact lnP Tryz.f264 hq Sb
 obtain⟨x11,r11,a11,u11,hM11,⟨rfl,hw11⟩,hk11,rfl⟩:=hr11;rw[hM11,K7]at hq;refine xY b8y Eb λb12=>?_
 refine kA1 ?_;refine G7 (k:=1) (sz:=1) (cs:=M8 x11) rfl (by decide) Up ?_;refine WL.perm (List.Perm.swap _ _ _) ?_;refine Z0 ?_;refine B1 [0,1,2,3] rfl (λμ F' h'=>∃a9:Option Addr,∃c9:Nat,∃l:List Int,∃x:Option Addr,∃y:Nat,∃r:List Tok,((1<=l.length/\l.length<=most)/\Tk2 m hT x y r/\(∀z∈l,WK z)/\U0 take sep most ts=a3I take sep (most-l.length) l r)/\most-l.length=μ/\F'=[(9,.slice a9 l.length c9)]/\lnR b x r.length y::.row (.slice a9 l.length c9) 25 1 l.length (fl M8 l)::h=h') (most-([x11]).length) [(9,.slice (some ⟨b12,0,none⟩) ([x11]).length 1)] (h0:=lnR b a11 r11.length u11::.row (.slice (some ⟨b12,0,none⟩) ([x11]).length 1) 25 1 ([x11]).length (fl M8 ([x11]))::h) ?_ Sb ⟨some ⟨b12,0,none⟩,1,[x11],a11,u11,r11,⟨⟨Nat.le_refl _,h1.1⟩,hk11,λz hz=>by rw[List.mem_singleton]at hz;subst hz;exact hw11,hq⟩,rfl,rfl,rfl⟩ ?_;exact Su
 rintro _ _ _ ⟨a9,c9,l,x,y,r,⟨⟨hl1,hl2⟩,hk1,hW,hJ⟩,rfl,rfl,rfl⟩;refine B2 rfl ?_;refine kA2 ?_;refine xf (E1 Et) (K0 _ _ _) ?_;refine pD (lnR b x r.length y) ?_;refine xg (E2 Et Et) (O2 b x y r _ _ _ hk1 (hs.trans Sb)) ?_;rintro _ _ ⟨a16,u16,r16,rfl,he16,hk16,rfl⟩;refine Z0 ?_;refine wc ?_ ?_<;>intro c16
 replace he16:=he16.trans (if_pos c16);subst r16;refine ZZ [0,4,0] ?_;refine wE ?_ ?_<;>intro c20
 have e20:most-l.length=0:=by omega
 have hq:U0 take sep most ts=.error 110:=by rw[hJ,e20];exact a5W c16
 refine j0 ?_;refine A1 Ef Evs.nil (K9 _ _) Lb (λv hv hx=>?_) λv21 h21 hr21=>?_
 ·obtain⟨rfl,rfl⟩:=hx;exact lnP Tryz.f264 hq Sb
 exact hr21.elim;obtain⟨n,hn⟩:∃n,most-l.length=n+1:=⟨most-l.length-1,by omega⟩;rw[hn]at hJ;have hq:=hJ.trans (a6i c16);refine ZZ [0,2] ?_;refine pD (lnR b a16 r.tail.length u16) ?_;refine A1 (Ev.tmp rfl) Evs.nil (ht a16 u16 r.tail _ hk16 (hs.trans Sb)) Lb (λv hv hx=>?_) λv24 h24 hr24=>?_
 ·obtain⟨e,hx1,rfl,rfl⟩:=hx;rw[hx1]at hq;exact lnP Tryz.f264 hq Sb
 obtain⟨x24,r24,a24,u24,hM24,⟨rfl,hw24⟩,hk24,rfl⟩:=hr24;rw[hM24,K7]at hq;have hln:(l++[x24]).length=l.length+1:=List.length_append;have hn2:most-(l++[x24]).length=n:=by omega
 refine xY b8y Eb λb25=>?_;refine xD b8y (Ev.tmp rfl) (Ev.tmp rfl) (show l.length+1=(l++[x24]).length by simp) (D4 (enc:=M8) _ (x24)) λa26 c26=>?_
 refine kA1 ?_;refine WL.nil (A6 (most-(l++[x24]).length) [(9,.slice a26 (l++[x24]).length c26)] (h'':=lnR b a24 r24.length u24::.row (.slice a26 (l++[x24]).length c26) 25 1 (l++[x24]).length (fl M8 (l++[x24]))::h) (by omega) ?_ Su Sb ⟨a26,c26,l++[x24],a24,u24,r24,⟨⟨by omega,by omega⟩,hk24,a0u hW hw24,by rw[hn2];exact hq⟩,rfl,rfl,rfl⟩);exact Su;replace he16:=he16.trans (if_neg (J8 c16));subst r16;rw[a6K c16]at hJ;refine Q7 (a:=a9) Me λp9 q9 r9=>?_
 refine ZZ [0,2,0] ?_;refine xT (lnR b a16 r.length u16::.row (.slice a9 l.length c9) 25 1 l.length (fl M8 l)::h) ?_;exact⟨_,r,_,_,[.row (.slice a9 l.length c9) 25 1 l.length (fl M8 l)],hJ,⟨a9,c9,rfl,Rd.inRow (List.Mem.head _) r9 p9 q9,hW⟩,hk16,rfl⟩
theorem c3E{m:View}(q:FuncId)(take:List Tok->E Fo)(sep:B)(most:Nat)(b:Nat)(a:Option Addr)(c:Nat)(ts:List Tok)(h hT:List Res)(hk:Tk2 m hT a c ts)(hs:hT.Sublist h)(h1:1<=most/\most<=100)
 (ht:∀(a:Option Addr)(c:Nat)(ts:List Tok)(h:List Res),Tk2 m hT a c ts->hT.Sublist h->LnY m q [ptV b] b a c ts hT h (take ts) WF) :
 LnX m 266 [ptV b,str sep,.int .i64 most,.func (.func q) #[ptV b] #[]] b a c ts hT h (U0 take sep most ts) (OLs m foE 6 FoW):=by
 have hq:U0 take sep most ts=S3 (take ts) λx r=>a3I take sep (most-1) [x] r:=rfl
 refine xB [0,1,2,3,8,9,16,20] func266 λ_=>?_;refine ZZ [1,1] ?_;refine pD (lnR b a ts.length c) ?_;refine A1 (Ev.tmp rfl) Evs.nil (ht a c ts _ hk (hs.trans Sb)) Lb (λv hv hx=>?_) λv11 h11 hr11=>?_
 ·obtain⟨e,hx1,rfl,rfl⟩:=hx;rw[hx1]at hq;exact lnP Tryz.f266 hq Sb
 obtain⟨x11,r11,a11,u11,hM11,⟨rfl,hw11⟩,hk11,rfl⟩:=hr11;rw[hM11,K7]at hq;refine xY b6Z Eb λb12=>?_
 refine kA1 ?_;refine G7 (k:=1) (sz:=6) (cs:=foE x11) rfl (by decide) Up ?_;refine WL.perm (List.Perm.swap _ _ _) ?_;refine Z0 ?_;refine B1 [0,1,2,3] rfl (λμ F' h'=>∃a9:Option Addr,∃c9:Nat,∃l:List Fo,∃x:Option Addr,∃y:Nat,∃r:List Tok,((1<=l.length/\l.length<=most)/\Tk2 m hT x y r/\(∀z∈l,FoW z)/\U0 take sep most ts=a3I take sep (most-l.length) l r)/\most-l.length=μ/\F'=[(9,.slice a9 l.length c9)]/\lnR b x r.length y::.row (.slice a9 l.length c9) 129 6 l.length (fl foE l)::h=h') (most-([x11]).length) [(9,.slice (some ⟨b12,0,none⟩) ([x11]).length 1)] (h0:=lnR b a11 r11.length u11::.row (.slice (some ⟨b12,0,none⟩) ([x11]).length 1) 129 6 ([x11]).length (fl foE ([x11]))::h) ?_ Sb ⟨some ⟨b12,0,none⟩,1,[x11],a11,u11,r11,⟨⟨Nat.le_refl _,h1.1⟩,hk11,λz hz=>by rw[List.mem_singleton]at hz;subst hz;exact hw11,hq⟩,rfl,rfl,rfl⟩ ?_;exact Su
 rintro _ _ _ ⟨a9,c9,l,x,y,r,⟨⟨hl1,hl2⟩,hk1,hW,hJ⟩,rfl,rfl,rfl⟩;refine B2 rfl ?_;refine kA2 ?_;refine xf (E1 Et) (K0 _ _ _) ?_;refine pD (lnR b x r.length y) ?_;refine xg (E2 Et Et) (O2 b x y r _ _ _ hk1 (hs.trans Sb)) ?_;rintro _ _ ⟨a16,u16,r16,rfl,he16,hk16,rfl⟩;refine Z0 ?_;refine wc ?_ ?_<;>intro c16
 replace he16:=he16.trans (if_pos c16);subst r16;refine ZZ [0,4,0] ?_;refine wE ?_ ?_<;>intro c20
 have e20:most-l.length=0:=by omega
 have hq:U0 take sep most ts=.error 110:=by rw[hJ,e20];exact a5W c16
 refine j0 ?_;refine A1 Ef Evs.nil (K9 _ _) Lb (λv hv hx=>?_) λv21 h21 hr21=>?_
 ·obtain⟨rfl,rfl⟩:=hx;exact lnP Tryz.f266 hq Sb
 exact hr21.elim;obtain⟨n,hn⟩:∃n,most-l.length=n+1:=⟨most-l.length-1,by omega⟩;rw[hn]at hJ;have hq:=hJ.trans (a6i c16);refine ZZ [0,2] ?_;refine pD (lnR b a16 r.tail.length u16) ?_;refine A1 (Ev.tmp rfl) Evs.nil (ht a16 u16 r.tail _ hk16 (hs.trans Sb)) Lb (λv hv hx=>?_) λv24 h24 hr24=>?_
 ·obtain⟨e,hx1,rfl,rfl⟩:=hx;rw[hx1]at hq;exact lnP Tryz.f266 hq Sb
 obtain⟨x24,r24,a24,u24,hM24,⟨rfl,hw24⟩,hk24,rfl⟩:=hr24;rw[hM24,K7]at hq;have hln:(l++[x24]).length=l.length+1:=List.length_append;have hn2:most-(l++[x24]).length=n:=by omega
 refine xY b6Z Eb λb25=>?_;refine xD b6Z (Ev.tmp rfl) (Ev.tmp rfl) (show l.length+1=(l++[x24]).length by simp) (D4 (enc:=foE) _ (x24)) λa26 c26=>?_
 refine kA1 ?_;refine WL.nil (A6 (most-(l++[x24]).length) [(9,.slice a26 (l++[x24]).length c26)] (h'':=lnR b a24 r24.length u24::.row (.slice a26 (l++[x24]).length c26) 129 6 (l++[x24]).length (fl foE (l++[x24]))::h) (by omega) ?_ Su Sb ⟨a26,c26,l++[x24],a24,u24,r24,⟨⟨by omega,by omega⟩,hk24,a0u hW hw24,by rw[hn2];exact hq⟩,rfl,rfl,rfl⟩);exact Su;replace he16:=he16.trans (if_neg (J8 c16));subst r16;rw[a6K c16]at hJ;refine Q7 (a:=a9) Me λp9 q9 r9=>?_
 refine ZZ [0,2,0] ?_;refine xT (lnR b a16 r.length u16::.row (.slice a9 l.length c9) 129 6 l.length (fl foE l)::h) ?_;exact⟨_,r,_,_,[.row (.slice a9 l.length c9) 129 6 l.length (fl foE l)],hJ,⟨a9,c9,rfl,Rd.inRow (List.Mem.head _) r9 p9 q9,hW⟩,hk16,rfl⟩
theorem c5q{m:View}(q:FuncId)(take:List Tok->E Ex)(b:Nat)(a:Option Addr)(c:Nat)(ts:List Tok)(h hT:List Res)(hk:Tk2 m hT a c ts)(hs:hT.Sublist h)
 (ht:∀(a:Option Addr)(c:Nat)(ts:List Tok)(h:List Res),Tk2 m hT a c ts->hT.Sublist h->LnX m q [ptV b] b a c ts hT h (take ts) (OE m)) :
 LnX m 201 [ptV b,.func (.func q) #[ptV b] #[]] b a c ts hT h (brM take ts) (OL m):=by
 have hq:brM take ts=a0P 5 [40] ts λr=>if isM 5 [41] r then .ok ([],r.tail)else S3 (U0 take [44] 8 r) λl r=>a0P 5 [41] r λr=>.ok (l,r):=rfl
 refine xB [0,1,4,5,12] func201 λ_=>?_;refine ZZ [1,1] ?_;refine xf (E1 Ek) (K0 _ _ _) ?_;refine xY B3 Eb λb8=>?_
 refine pD (lnR b a ts.length c) ?_;refine A1 Ef (E2 Et Et) (Q9 b a c ts _ _ _ _ _ hk (hs.trans Sb) (Rd.ofPt rfl (by decide) Me)) Lb (λv hv hx=>?_) λv9 h9 hr9=>?_
 ·obtain⟨hx1,rfl,rfl⟩:=hx;exact lnP Tryz.f201 (hq.trans (a5o hx1)) Sb
 obtain⟨hi9,a9,u9,hk9,rfl⟩:=hr9;rw[a5h hi9]at hq;refine ZZ [0,1] ?_;refine xf (E1 Ek) (K0 _ _ _) ?_;refine pD (lnR b a9 ts.tail.length u9) ?_;refine xg (E2 Et Et) (O2 b a9 u9 ts.tail _ _ _ hk9 (hs.trans Sb)) ?_;rintro _ _ ⟨a12,u12,r12,rfl,he12,hk12,rfl⟩;refine Z0 ?_;refine wc ?_ ?_<;>intro c12
 replace he12:=he12.trans (if_pos c12);subst r12;rw[if_pos c12]at hq;refine Z1 ?_;refine xT (lnR b a12 ts.tail.tail.length u12::h) ?_;exact⟨_,_,_,_,[],hq,⟨⟨none,0,[]⟩,rfl,rfl,Rd.nilF exE 6 m _,λ_ hx=>(List.not_mem_nil hx).elim⟩,hk12,rfl⟩;replace he12:=he12.trans (if_neg (J8 c12));subst r12;rw[if_neg (J8 c12)]at hq;refine ZZ [0,2] ?_;refine pD (lnR b a12 ts.tail.length u12) ?_;refine A1 Ef (E4 Et Ek Ek Et) (a1U q take [44] 8 b a12 u12 ts.tail _ _ hk12 (hs.trans Sb) (by decide) ht) Lb (λv hv hx=>?_) λv15 h15 hr15=>?_
 ·obtain⟨e,hx1,rfl,rfl⟩:=hx;rw[hx1]at hq;exact lnP Tryz.f201 hq Sb
 obtain⟨x15,r15,a15,u15,bl15,hM15,⟨s15,rfl,rfl,hO15⟩,hk15,rfl⟩:=hr15;refine WL.perm ((Mv.perm).cons _) ?_;rw[hM15,K7]at hq;refine ZZ [1,1] ?_;refine xf (E1 Ek) (K0 _ _ _) ?_;refine xY B3 Eb λb18=>?_
 refine pD (lnR b a15 r15.length u15) ?_;refine A1 Ef (E2 Et Et) (Q9 b a15 u15 r15 _ _ _ _ _ hk15 (hs.trans Sb) (Rd.ofPt rfl (by decide) Me)) Lb (λv hv hx=>?_) λv19 h19 hr19=>?_
 ·obtain⟨hx1,rfl,rfl⟩:=hx;exact lnP Tryz.f201 (hq.trans (a5o hx1)) Sb
 obtain⟨hi19,a19,u19,hk19,rfl⟩:=hr19;rw[a5h hi19]at hq;refine ZZ [0,2,0] ?_;refine xT (lnR b a19 r15.tail.length u19::(bl15++h)) ?_;exact⟨_,_,_,_,bl15,hq,⟨s15,rfl,rfl,hO15⟩,hk19,rfl⟩
theorem c5n{m:View}(q:FuncId)(take:List Tok->E Fo)(b:Nat)(a:Option Addr)(c:Nat)(ts:List Tok)(h hT:List Res)(hk:Tk2 m hT a c ts)(hs:hT.Sublist h)
 (ht:∀(a:Option Addr)(c:Nat)(ts:List Tok)(h:List Res),Tk2 m hT a c ts->hT.Sublist h->LnY m q [ptV b] b a c ts hT h (take ts) WF) :
 LnX m 181 [ptV b,.func (.func q) #[ptV b] #[]] b a c ts hT h (brM take ts) (OLs m foE 6 FoW):=by
 have hq:brM take ts=a0P 5 [40] ts λr=>if isM 5 [41] r then .ok ([],r.tail)else S3 (U0 take [44] 8 r) λl r=>a0P 5 [41] r λr=>.ok (l,r):=rfl
 refine xB [0,1,4,5,12] func181 λ_=>?_;refine ZZ [1,1] ?_;refine xf (E1 Ek) (K0 _ _ _) ?_;refine xY B3 Eb λb8=>?_
 refine pD (lnR b a ts.length c) ?_;refine A1 Ef (E2 Et Et) (Q9 b a c ts _ _ _ _ _ hk (hs.trans Sb) (Rd.ofPt rfl (by decide) Me)) Lb (λv hv hx=>?_) λv9 h9 hr9=>?_
 ·obtain⟨hx1,rfl,rfl⟩:=hx;exact lnP Tryz.f181 (hq.trans (a5o hx1)) Sb
 obtain⟨hi9,a9,u9,hk9,rfl⟩:=hr9;rw[a5h hi9]at hq;refine ZZ [0,1] ?_;refine xf (E1 Ek) (K0 _ _ _) ?_;refine pD (lnR b a9 ts.tail.length u9) ?_;refine xg (E2 Et Et) (O2 b a9 u9 ts.tail _ _ _ hk9 (hs.trans Sb)) ?_;rintro _ _ ⟨a12,u12,r12,rfl,he12,hk12,rfl⟩;refine Z0 ?_;refine wc ?_ ?_<;>intro c12
 replace he12:=he12.trans (if_pos c12);subst r12;rw[if_pos c12]at hq;refine Z1 ?_;refine xT (lnR b a12 ts.tail.tail.length u12::h) ?_;exact⟨_,_,_,_,[],hq,⟨none,0,rfl,Rd.nilF foE 6 m _,λ_ hx=>(List.not_mem_nil hx).elim⟩,hk12,rfl⟩;replace he12:=he12.trans (if_neg (J8 c12));subst r12;rw[if_neg (J8 c12)]at hq;refine ZZ [0,2] ?_;refine pD (lnR b a12 ts.tail.length u12) ?_;refine A1 Ef (E4 Et Ek Ek Et) (c3E q take [44] 8 b a12 u12 ts.tail _ _ hk12 (hs.trans Sb) (by decide) ht) Lb (λv hv hx=>?_) λv15 h15 hr15=>?_
 ·obtain⟨e,hx1,rfl,rfl⟩:=hx;rw[hx1]at hq;exact lnP Tryz.f181 hq Sb
 obtain⟨x15,r15,a15,u15,bl15,hM15,⟨p15,q15,rfl,hR15,hO15⟩,hk15,rfl⟩:=hr15;refine WL.perm ((Mv.perm).cons _) ?_;rw[hM15,K7]at hq;refine ZZ [1,1] ?_;refine xf (E1 Ek) (K0 _ _ _) ?_;refine xY B3 Eb λb18=>?_
 refine pD (lnR b a15 r15.length u15) ?_;refine A1 Ef (E2 Et Et) (Q9 b a15 u15 r15 _ _ _ _ _ hk15 (hs.trans Sb) (Rd.ofPt rfl (by decide) Me)) Lb (λv hv hx=>?_) λv19 h19 hr19=>?_
 ·obtain⟨hx1,rfl,rfl⟩:=hx;exact lnP Tryz.f181 (hq.trans (a5o hx1)) Sb
 obtain⟨hi19,a19,u19,hk19,rfl⟩:=hr19;rw[a5h hi19]at hq;refine ZZ [0,2,0] ?_;refine xT (lnR b a19 r15.tail.length u19::(bl15++h)) ?_;exact⟨_,_,_,_,bl15,hq,⟨p15,q15,rfl,hR15,hO15⟩,hk19,rfl⟩
end
section
open Go.Eng Go.Pc Go.Sx Go
open Go.Xp hiding B C9
open Go.Ty (Ty Vr Tok eqT tyV I7 A3 B8 O4 zeroK M8 D3)
open Go.Lx (encB encB_len)
theorem c0Q(a b c:List Res):c.Sublist (a++(b++c)):=(List.sublist_append_right b c).trans (List.sublist_append_right a _)
theorem c2M(a b c:List Res):b.Sublist (a++(b++c)):=(List.sublist_append_left b c).trans (List.sublist_append_right a _)
theorem c6d(ts:List Tok):b4J ts=((a6w ts==0)&&isM 5 [38] (ts.drop (a1f ts))):=by
 unfold b4J a6w a1f;cases hf:U9 ts with
 |ok x=>obtain⟨x,k⟩:=x;rfl
 |error e=>rcases b5g hf with rfl|rfl<;>rfl
abbrev OG(m:View)(x:Gu)(v:Value)(bl:List Res):Prop:=∃g,v=guV g/\stG g=x/\GOk m bl g
theorem gok{m:View}{h:List Res}{k:Int}{n:B}{cond ch:Ex}{tg vl:Sli Ex}{time:Ex}(hk:0<=k/\k<=255)(hn:n.length<=Big)(h1:EOk m h cond)(h2:EOk m h ch)(h3:LOk m h tg)(h4:LOk m h vl)(h5:EOk m h time) :
 GOk m h (.mk k n cond ch tg vl time none 0 []):=⟨hk,hn,h1,h2,h3,h4,h5,Rd.nilF prE 42 m h⟩
abbrev g0(k:Int)(n:B)(cond ch:Ex)(tg vl:Sli Ex)(time:Ex):Gu:=.mk k n cond ch tg vl time none 0 []
abbrev gR(b:Nat)(g:Gu):Res:=.pt b (.cells (guE g).toArray 100 (0,0))
theorem c4S{m:View}(hg:Glob m)(b:Nat)(a:Option Addr)(c:Nat)(ts:List Tok)(h hT:List Res)(hb:lnR b a ts.length c∈h)(hk:Tk2 m hT a c ts)(hs:hT.Sublist h) :
 CT prog 335 [ptV b] h m (A7 h (.bool (b4J ts))):=by
 have hle:=a43 (ts:=ts);refine cB [0,2,4,5,6] func335 λ_=>?_;refine ZZ [1,3] ?_;refine xG (E9 a4J rfl Et hb rfl) ?_;refine xg (E1 Et) (b2k hg a c ts _ (hk.k.mono (hs.trans Sb)) hk.n) ?_;rintro _ _ ⟨t12,bl,rfl,⟨hst,hU,hW⟩,rfl⟩;refine WL.perm (Mv.perm) ?_;refine kA4 ?_;refine xW λb3=>?_
 refine ZZ [3,3] ?_;refine xG (E9 a4J rfl Et (List.mem_cons_of_mem _ (List.mem_append_right _ hb)) rfl) ?_;refine kA1 ?_;refine xG (a1z B3.und B3.size Et Et rfl (by omega)) ?_;refine kA1 ?_;refine xW λb6=>?_;refine ZZ [1,3] ?_;refine A4 (GU.t rfl rfl) (λhc=>⟨Ef,(E1 Ek),K0 _ _ _⟩) Lb ?_;refine A4 (GU.t rfl rfl) (λhc=>⟨Ef,(E2 Et (Eg hc)),a4i b6 _ _ (ts.drop (a1f ts)) _ _ hT (by rw[List.length_drop];exact List.mem_cons_self ..) (hk.drop hle) (hs.trans Sb)⟩) Lb ?_;refine Z2 ?_;refine wT h ?_;exact⟨by rw[c6d],rfl⟩
theorem c9p{m:View}(hg:Glob m)(b:Nat)(a:Option Addr)(c:Nat)(ts:List Tok)(h hT:List Res)(hk:Tk2 m hT a c ts)(hs:hT.Sublist h):LnX m 273 [ptV b] b a c ts hT h (ifM ts) (OG m):=by
 have hq:ifM ts=S3 (P5 ts) λc r=>.ok (guM 1 [] c A2 [] [] A2,r):=rfl
 refine xB [0,2] func273 λ_=>?_;refine xW λb2=>?_
 refine ZZ [0,1] ?_;refine pD (lnR b a ts.length c) ?_;refine A1 Ef (E1 Et) (Y6 hg b a c ts _ _ hk (hs.trans Sb)) Lb (λv hv hx=>?_) λv4 h4 hr4=>?_
 ·obtain⟨e,hx1,rfl,rfl⟩:=hx;rw[hx1]at hq;exact lnP Tryz.f273 hq Sb
 obtain⟨x4,r4,a4,u4,bl4,hM4,⟨t4,rfl,rfl,hO4⟩,hk4,rfl⟩:=hr4;refine WL.perm ((Mv.perm).cons _) ?_;rw[hM4,K7]at hq;refine Z2 ?_;refine xT (lnR b a4 r4.length u4::(bl4++h)) (h1:=cA a3w) ?_;exact⟨_,_,_,_,bl4,hq,⟨g0 1 [] t4 A2 B0 B0 A2,rfl,rfl,gok (by decide) (Nat.zero_le _) hO4 (H5 _ _) (I4 _ _) (I4 _ _) (H5 _ _)⟩,hk4,rfl⟩
theorem c1s{m:View}(hg:Glob m)(b:Nat)(a:Option Addr)(c:Nat)(ts:List Tok)(h hT:List Res)(hk:Tk2 m hT a c ts)(hs:hT.Sublist h):LnX m 272 [ptV b] b a c ts hT h (a9i ts) (OG m):=by
 have hq:a9i ts=if b4J ts then S3 (P5 ts) λc r=>a0P 5 [38] r λr=>if isM 2 [83,75,73,80] r then .ok (guM 2 [] c A2 [] [] A2,r.tail)else b2D c r else b2D A2 ts:=rfl
 refine xB [0,2,3,16,28] func272 λ_=>?_;refine xW λb2=>?_
 refine ZZ [0,1] ?_;refine xW λb3=>?_;refine ZZ [1,1] ?_;refine xf (E1 Et) (c4S hg b a c ts _ hT Me hk (hs.trans Sb)) ?_;refine pD (lnR b a ts.length c) ?_;refine kP0 [0,2,3,6] ?_;refine F4 KKh [0,2,3] rfl (λF' h'=>∃tc:Ex,∃bl:List Res,∃x:Option Addr,∃y:Nat,∃r:List Tok,(EOk m bl tc/\Tk2 m hT x y r/\a9i ts=b2D (C6 tc) r)/\F'=[]/\lnR b x r.length y::gR b3 (g0 3 [] tc A2 B0 B0 A2)::gR b2 (g0 0 [] A2 A2 B0 B0 A2)::(bl++h)=h') ?_ ?_;refine jE ?_;refine wc ?_ ?_<;>intro c6
 rw[if_pos c6]at hq;refine kA1 ?_;refine pD (lnR b a ts.length c) ?_;refine A1 Ef (E1 Et) (Y6 hg b a c ts _ _ hk (hs.trans Sb)) Lb (λv hv hx=>?_) λv8 h8 hr8=>?_
 ·obtain⟨e,hx1,rfl,rfl⟩:=hx;rw[hx1]at hq;exact lnP Tryz.f272 hq Sb
 obtain⟨x8,r8,a8,u8,bl8,hM8,⟨t8,rfl,rfl,hO8⟩,hk8,rfl⟩:=hr8;refine WL.perm ((Mv.perm).cons _) ?_;rw[hM8,K7]at hq;refine ZZ [2,1] ?_;refine xf (E1 Ek) (K0 _ _ _) ?_;refine xY B3 Eb λb12=>?_
 refine pD (lnR b a8 r8.length u8) ?_;refine A1 Ef (E2 Et Et) (Q9 b a8 u8 r8 _ _ _ _ _ hk8 (hs.trans Sb) (Rd.ofPt rfl (by decide) Me)) Lb (λv hv hx=>?_) λv13 h13 hr13=>?_
 ·obtain⟨hx1,rfl,rfl⟩:=hx;exact lnP Tryz.f272 (hq.trans (a5o hx1)) Sb
 obtain⟨hi13,a13,u13,hk13,rfl⟩:=hr13;rw[a5h hi13]at hq;refine ZZ [0,1] ?_;refine xf (E1 Ek) (N3 _ _ _) ?_;refine pD (lnR b a13 r8.tail.length u13) ?_;refine xg (E2 Et Et) (O2 b a13 u13 r8.tail _ _ _ hk13 (hs.trans Sb)) ?_;rintro _ _ ⟨a16,u16,r16,rfl,he16,hk16,rfl⟩;refine Z0 ?_;refine wc ?_ ?_<;>intro c16
 replace he16:=he16.trans (if_pos c16);subst r16;rw[if_pos c16]at hq;refine ZZ [2,2,0] ?_;refine xT (lnR b a16 r8.tail.tail.length u16::(bl8++h)) (h1:=cA a3w) ?_;exact⟨_,_,_,_,bl8,hq,⟨g0 2 [] t8 A2 B0 B0 A2,rfl,rfl,gok (by decide) (Nat.zero_le _) hO8 (H5 _ _) (I4 _ _) (I4 _ _) (H5 _ _)⟩,hk16,rfl⟩;replace he16:=he16.trans (if_neg (J8 c16));subst r16;rw[if_neg (J8 c16)]at hq;refine WC.skip (B4 [] (h'':=lnR b a16 (r8.tail).length u16::gR b3 (g0 3 [] t8 A2 B0 B0 A2)::gR b2 (g0 0 [] A2 A2 B0 B0 A2)::(bl8++h)) ?_ Su Sb ⟨t8,bl8,a16,u16,r8.tail,⟨hO8,hk16,hq⟩,rfl,rfl⟩);exact Su;rw[if_neg (J8 c6)]at hq;refine WC.skip (B4 [] (h'':=lnR b a ts.length c::gR b3 (g0 3 [] A2 A2 B0 B0 A2)::gR b2 (g0 0 [] A2 A2 B0 B0 A2)::(([])++h)) ?_ Su Sb ⟨A2,[],a,c,ts,⟨H5 _ _,hk,hq⟩,rfl,rfl⟩);exact Su;rintro _ _ ⟨tc,bl,x,y,r,⟨hC,hk1,hq⟩,rfl,rfl⟩;refine B2 rfl ?_
 replace hq:a9i ts=S3 (N8 r) λch r=>a0P 5 [63] r λr=>if isM 2 [65,70,84,69,82] r then S3 (P5 r.tail) λt r=>.ok (guM 4 [] (C6 tc) ch [] [] t,r)else S3 (U0 N8 [59] 8 r) λl r=>.ok (guM 3 [] (C6 tc) ch l [] A2,r):=hq
 refine kA1 ?_;refine pD (lnR b x r.length y) ?_;refine A1 Ef (E1 Et) (a1w hg b x y r _ _ hk1 (hs.trans Sb)) Lb (λv hv hx=>?_) λv20 h20 hr20=>?_
 ·obtain⟨e,hx1,rfl,rfl⟩:=hx;rw[hx1]at hq;exact lnP Tryz.f272 hq Sb
 obtain⟨x20,r20,a20,u20,bl20,hM20,⟨t20,rfl,rfl,hO20⟩,hk20,rfl⟩:=hr20;refine WL.perm ((Mv.perm).cons _) ?_;rw[hM20,K7]at hq;refine ZZ [2,1] ?_;refine xf (E1 Ek) (K0 _ _ _) ?_;refine xY B3 Eb λb24=>?_
 refine pD (lnR b a20 r20.length u20) ?_;refine A1 Ef (E2 Et Et) (Q9 b a20 u20 r20 _ _ _ _ _ hk20 (hs.trans Sb) (Rd.ofPt rfl (by decide) Me)) Lb (λv hv hx=>?_) λv25 h25 hr25=>?_
 ·obtain⟨hx1,rfl,rfl⟩:=hx;exact lnP Tryz.f272 (hq.trans (a5o hx1)) Sb
 obtain⟨hi25,a25,u25,hk25,rfl⟩:=hr25;rw[a5h hi25]at hq;refine ZZ [0,1] ?_;refine xf (E1 Ek) (N3 _ _ _) ?_;refine pD (lnR b a25 r20.tail.length u25) ?_;refine xg (E2 Et Et) (O2 b a25 u25 r20.tail _ _ _ hk25 (hs.trans Sb)) ?_;rintro _ _ ⟨a28,u28,r28,rfl,he28,hk28,rfl⟩;refine Z0 ?_;refine wc ?_ ?_<;>intro c28
 replace he28:=he28.trans (if_pos c28);subst r28;rw[if_pos c28]at hq;refine kA1 ?_;refine pD (lnR b a28 r20.tail.tail.length u28) ?_;refine A1 Ef (E1 Et) (Y6 hg b a28 u28 r20.tail.tail _ _ hk28 (hs.trans Sb)) Lb (λv hv hx=>?_) λv30 h30 hr30=>?_
 ·obtain⟨e,hx1,rfl,rfl⟩:=hx;rw[hx1]at hq;exact lnP Tryz.f272 hq Sb
 obtain⟨x30,r30,a30,u30,bl30,hM30,⟨t30,rfl,rfl,hO30⟩,hk30,rfl⟩:=hr30;refine WL.perm ((Mv.perm).cons _) ?_;rw[hM30,K7]at hq;refine ZZ [4,2,0] ?_;refine xT (lnR b a30 r30.length u30::(bl30++(bl20++(bl++h)))) (h1:=cA a3w) ?_;exact⟨_,_,_,_,bl30++(bl20++bl),hq,⟨g0 4 [] tc t20 B0 B0 t30,rfl,rfl,gok (by decide) (Nat.zero_le _) (hC.mono (c0Q _ _ _)) (hO20.mono (c2M _ _ _)) (I4 _ _) (I4 _ _) (hO30.mono (List.sublist_append_left _ _))⟩,hk30,by simp only[List.append_assoc]⟩;replace he28:=he28.trans (if_neg (J8 c28));subst r28;rw[if_neg (J8 c28)]at hq;refine ZZ [0,2] ?_;refine xG (PO.makeFunc (E1 Et) Evs.nil) ?_;refine pD (lnR b a28 r20.tail.length u28) ?_;refine A1 Ef (E4 Et Ek Ek Et) (a1U 190 N8 [59] 8 b a28 u28 r20.tail _ _ hk28 (hs.trans Sb) (by decide) (λa c ts h hk hs=>a1w hg b a c ts h _ hk hs)) Lb (λv hv hx=>?_) λv37 h37 hr37=>?_
 ·obtain⟨e,hx1,rfl,rfl⟩:=hx;rw[hx1]at hq;exact lnP Tryz.f272 hq Sb
 obtain⟨x37,r37,a37,u37,bl37,hM37,⟨s37,rfl,rfl,hO37⟩,hk37,rfl⟩:=hr37;refine WL.perm ((Mv.perm).cons _) ?_;rw[hM37,K7]at hq;refine ZZ [2,2,0] ?_;refine xT (lnR b a37 r37.length u37::(bl37++(bl20++(bl++h)))) (h1:=cA a3w) ?_;exact⟨_,_,_,_,bl37++(bl20++bl),hq,⟨g0 3 [] tc t20 s37 B0 A2,rfl,rfl,gok (by decide) (Nat.zero_le _) (hC.mono (c0Q _ _ _)) (hO20.mono (c2M _ _ _)) (hO37.mono (List.sublist_append_left _ _)) (I4 _ _) (H5 _ _)⟩,hk37,by simp only[List.append_assoc]⟩
theorem c8m{m:View}(hg:Glob m)(b:Nat)(a:Option Addr)(c:Nat)(ts:List Tok)(h hT:List Res)(hk:Tk2 m hT a c ts)(hs:hT.Sublist h):LnX m 274 [ptV b] b a c ts hT h (b9c ts) (OG m):=by
 have hq:b9c ts=if isM 2 [69,76,83,69] ts then .ok (guM 6 [] A2 A2 [] [] A2,ts.tail)else S3 (U0 P5 [44] 8 ts) λl r=>.ok (guM 5 [] A2 A2 [] l A2,r):=rfl
 refine xB [0,2,5] func274 λ_=>?_;refine xW λb2=>?_
 refine ZZ [0,1] ?_;refine xf (E1 Ek) (N3 _ _ _) ?_;refine pD (lnR b a ts.length c) ?_;refine xg (E2 Et Et) (O2 b a c ts _ _ _ hk (hs.trans Sb)) ?_;rintro _ _ ⟨a5,u5,r5,rfl,he5,hk5,rfl⟩;refine Z0 ?_;refine wc ?_ ?_<;>intro c5
 replace he5:=he5.trans (if_pos c5);subst r5;rw[if_pos c5]at hq;refine Z2 ?_;refine xT (lnR b a5 ts.tail.length u5::h) (h1:=cA a3w) ?_;exact⟨_,_,_,_,[],hq,⟨g0 6 [] A2 A2 B0 B0 A2,rfl,rfl,gok (by decide) (Nat.zero_le _) (H5 _ _) (H5 _ _) (I4 _ _) (I4 _ _) (H5 _ _)⟩,hk5,rfl⟩;replace he5:=he5.trans (if_neg (J8 c5));subst r5;rw[if_neg (J8 c5)]at hq;refine ZZ [0,2] ?_;refine xG (PO.makeFunc (E1 Et) Evs.nil) ?_;refine pD (lnR b a5 ts.length u5) ?_;refine A1 Ef (E4 Et Ek Ek Et) (a1U 187 P5 [44] 8 b a5 u5 ts _ _ hk5 (hs.trans Sb) (by decide) (λa c ts h hk hs=>Y6 hg b a c ts h _ hk hs)) Lb (λv hv hx=>?_) λv10 h10 hr10=>?_
 ·obtain⟨e,hx1,rfl,rfl⟩:=hx;rw[hx1]at hq;exact lnP Tryz.f274 hq Sb
 obtain⟨x10,r10,a10,u10,bl10,hM10,⟨s10,rfl,rfl,hO10⟩,hk10,rfl⟩:=hr10;refine WL.perm ((Mv.perm).cons _) ?_;rw[hM10,K7]at hq;refine Z2 ?_;refine xT (lnR b a10 r10.length u10::(bl10++h)) (h1:=cA a3w) ?_;exact⟨_,_,_,_,bl10,hq,⟨g0 5 [] A2 A2 B0 s10 A2,rfl,rfl,gok (by decide) (Nat.zero_le _) (H5 _ _) (H5 _ _) (I4 _ _) hO10 (H5 _ _)⟩,hk10,rfl⟩
theorem c8B{m:View}(hg:Glob m)(b:Nat)(a:Option Addr)(c:Nat)(ts:List Tok)(h hT:List Res)(hk:Tk2 m hT a c ts)(hs:hT.Sublist h):LnX m 204 [ptV b] b a c ts hT h (b6z ts) (OG m):=by
 have hq:b6z ts=S3 (a0j ts) λn r=>if isM 5 [59] r then S3 (U0 N8 [59] 8 r.tail) λl r=>.ok (guM 7 n A2 A2 l [] A2,r)else .ok (guM 7 n A2 A2 [] [] A2,r):=rfl
 refine xB [0,2,3] func204 λ_=>?_;refine xW λb2=>?_
 refine ZZ [0,1] ?_;refine pD (lnR b a ts.length c) ?_;refine A1 Ef (E1 Et) (a2x b a c ts _ _ hk (hs.trans Sb)) Lb (λv hv hx=>?_) λv5 h5 hr5=>?_
 ·obtain⟨e,hx1,rfl,rfl⟩:=hx;rw[hx1]at hq;exact lnP Tryz.f204 hq Sb
 obtain⟨x5,r5,a5,u5,hM5,⟨rfl,hw5⟩,hk5,rfl⟩:=hr5;rw[hM5,K7]at hq;refine kA1 ?_;refine xW λb3=>?_
 refine ZZ [1,1] ?_;refine xf (E1 Ek) (K0 _ _ _) ?_;refine pD (lnR b a5 r5.length u5) ?_;refine xg (E2 Et Et) (O2 b a5 u5 r5 _ _ _ hk5 (hs.trans Sb)) ?_;rintro _ _ ⟨a9,u9,r9,rfl,he9,hk9,rfl⟩;refine kP0 [0,2,3,9] ?_;refine F4 KKh [2,3] rfl (λF' h'=>∃l:Sli Ex,∃bl:List Res,∃x:Option Addr,∃y:Nat,∃r:List Tok,(LOk m bl l/\Tk2 m hT x y r/\b6z ts=.ok (guM 7 x5 A2 A2 (l.l.map C6) [] A2,r))/\F'=[]/\lnR b x r.length y::gR b3 (g0 7 x5 A2 A2 l B0 A2)::gR b2 (g0 0 [] A2 A2 B0 B0 A2)::(bl++h)=h') ?_ ?_;refine jE ?_;refine wc ?_ ?_<;>intro c9
 replace he9:=he9.trans (if_pos c9);subst r9;rw[if_pos c9]at hq;refine kA2 ?_;refine xG (PO.makeFunc (E1 Et) Evs.nil) ?_;refine pD (lnR b a9 r5.tail.length u9) ?_;refine A1 Ef (E4 Et Ek Ek Et) (a1U 190 N8 [59] 8 b a9 u9 r5.tail _ _ hk9 (hs.trans Sb) (by decide) (λa c ts h hk hs=>a1w hg b a c ts h _ hk hs)) Lb (λv hv hx=>?_) λv13 h13 hr13=>?_
 ·obtain⟨e,hx1,rfl,rfl⟩:=hx;rw[hx1]at hq;exact lnP Tryz.f204 hq Sb
 obtain⟨x13,r13,a13,u13,bl13,hM13,⟨s13,rfl,rfl,hO13⟩,hk13,rfl⟩:=hr13;refine WL.perm ((Mv.perm).cons _) ?_;rw[hM13,K7]at hq;refine kA2 ?_;refine WL.nil (B4 [] (h'':=lnR b a13 r13.length u13::gR b3 (g0 7 x5 A2 A2 s13 B0 A2)::gR b2 (g0 0 [] A2 A2 B0 B0 A2)::(bl13++h)) ?_ Su Sb ⟨s13,bl13,a13,u13,r13,⟨hO13,hk13,hq⟩,rfl,rfl⟩);exact Su;replace he9:=he9.trans (if_neg (J8 c9));subst r9;rw[if_neg (J8 c9)]at hq;refine WC.skip (B4 [] (h'':=lnR b a9 r5.length u9::gR b3 (g0 7 x5 A2 A2 B0 B0 A2)::gR b2 (g0 0 [] A2 A2 B0 B0 A2)::(([])++h)) ?_ Su Sb ⟨B0,[],a9,u9,r5,⟨I4 _ _,hk9,hq⟩,rfl,rfl⟩);exact Su;rintro _ _ ⟨l,bl,x,y,r,⟨hL,hk1,hq⟩,rfl,rfl⟩;refine B2 rfl ?_;refine Z2 ?_;refine xT (lnR b x r.length y::(bl++h)) (h1:=cA a3w) ?_;exact⟨_,_,_,_,bl,hq,⟨g0 7 x5 A2 A2 l B0 A2,rfl,rfl,gok (by decide) hw5 (H5 _ _) (H5 _ _) hL (I4 _ _) (H5 _ _)⟩,hk1,rfl⟩
end
section
open Go.Eng Go.Lx Go.Ty
theorem c4j(b:Nat)(line:B)(p:Nat)(h:List Res)(m:View)(hr:rdr b line p∈h)(hp:p<line.length)(hs:line.length<=140737488355328):CT prog 278 [.pointer (some ⟨b,0,none⟩)] h m (A7 h (tkR (a1e (line.drop p)))):=by
 have hl0:(line.drop p).length=line.length-p:=List.length_drop;have hl':((line.drop p).drop 1).length<=9223372036854775807:=by rw[List.length_drop];omega
 have hl2:((line.drop p).drop 1).length<=140737488355328:=by rw[List.length_drop];omega
 have hle:=b4k ((line.drop p).drop 1);generalize hs0:(line.drop p).drop 1=s at *;have hq:(O3 s).2<s.length->s[(O3 s).2]?=some (s.getD (O3 s).2 0):=λhi=>by rw[List.getD_eq_getElem?_getD,List.getElem?_eq_getElem hi];rfl
 refine cB [0,2,3,4,5,6,28] func278 λ_=>?_;refine xW λb2=>?_
 refine ZZ [1,1] ?_;refine xf (E1 Et) (a2t b line p _ _ (List.Mem.tail _ hr) (by omega)) ?_;refine xG (a6B uu9 Et Ek (l:=1) rfl (by omega)) ?_;refine WL.val (v':=str s) (congrArg str hs0) ?_;refine ZZ [1,1] ?_;refine xf (E1 Et) (c5F s _ _ hl') ?_;refine ZZ [5,5] ?_;refine zG (λhc=>I8 uu9 (Eg hc)) ?_;refine kA5 ?_;refine E8 (GU.f rfl rfl) (λhc=>I9 uu9 (Eg hc) (Eg hc) rfl (hq (by simp at hc;omega))) Lb ?_;refine Z2 ?_;refine wc ?_ ?_<;>intro c28
 have d28:noQ s (O3 s).2=true:=c28;refine Z3 ?_;refine w2 h (h1:=cA M4) ?_;exact⟨by unfold a1e;rw[hs0,d28];rfl,rfl⟩;have d28:noQ s (O3 s).2=false:=c28;refine ZZ [0,6,0] ?_;refine w2 h (h1:=cA M4) ?_;exact⟨by unfold a1e;rw[hs0,d28];rfl,rfl⟩
theorem c4r(b:Nat)(line:B)(p:Nat)(h:List Res)(m:View)(hg:Glob m)(hr:rdr b line p∈h)(hp:p<=line.length)(hs:line.length<=140737488355328):CT prog 279 [.pointer (some ⟨b,0,none⟩)] h m (A7 h (tkR (a8j (line.drop p)))):=by
 have hl:(line.drop p).length<=140737488355328:=by rw[List.length_drop];omega
 have hE:=c1J (line.drop p);refine cB [0,2,3,4,5,11,19] func279 λ_=>?_;refine xW λb2=>?_
 refine ZZ [1,1] ?_;refine xf (E1 Et) (a2t b line p _ _ (List.Mem.tail _ hr) hp) ?_;refine xG (I8 uu9 Et) ?_;refine xG (PO.min Ek Et) ?_;refine WL.val (v':=.int .i64 ((min 2 (line.drop p).length:Nat):Int)) (congrArg (Value.int .i64) (by omega)) ?_;refine Z1 ?_;refine B1 [0,2] rfl (λμ F' h'=>∃k:Nat,((k<=2/\k<=(line.drop p).length)/\a8j (line.drop p)=b0E (line.drop p) k)/\k=μ/\F'=[(4,.int .i64 k)]/\.pt b2 (.cells (A3 zeroK).toArray 97 (0,0))::h=h') (((min 2 (line.drop p).length:Nat))) [(4,.int .i64 ((min 2 (line.drop p).length:Nat)))] (h0:=.pt b2 (.cells (A3 zeroK).toArray 97 (0,0))::h) ?_ Sb ⟨(min 2 (line.drop p).length:Nat),⟨by omega,hE⟩,rfl,rfl,rfl⟩ ?_;exact Su;rintro _ _ _ ⟨k,⟨hk,hJ⟩,rfl,rfl,rfl⟩;refine B2 rfl ?_;refine Z2 ?_;refine wD ?_ ?_<;>intro c11
 obtain⟨j,rfl⟩:∃j,k=j+1:=⟨k-1,by omega⟩;rw[b0E]at hJ;refine ZZ [0,1] ?_;refine xf (E1 Et) (a2t b line p _ _ (List.Mem.tail _ hr) hp) ?_;refine kA1 ?_;refine xG (a6s uu9 Et Et rfl (by omega)) ?_;refine ZZ [1,1] ?_;refine xf (E1 Et) (b5H _ _ _ hg) ?_;refine Z0 ?_;refine wc ?_ ?_<;>intro c19
 rw[c19]at hJ;refine Z5 ?_;refine w2 h (h1:=cA M4) ?_;exact⟨by rw[hJ];rfl,rfl⟩;rw[c19]at hJ;refine ZZ [0,1] ?_;refine xG (Q4 Et Ek (by omega)) ?_;refine kA1 ?_;refine WL.nil (A6 (j) [(4,.int .i64 j)] (h'':=.pt b2 (.cells (A3 zeroK).toArray 97 (0,0))::h) (by omega) ?_ Su Sb ⟨j,⟨by omega,by simpa using hJ⟩,rfl,rfl,rfl⟩);exact Su;have e:k=0:=by omega
 subst e;refine ZZ [0,3,0] ?_;refine w2 h (h1:=cA M4) ?_;exact⟨by rw[hJ];rfl,rfl⟩
def nxF(c:UInt8):FuncId:=if ltr c.toNat then 275 else if dig c.toNat then 276 else if(c.toNat:Int)==35 then 277 else if(c.toNat:Int)==39 then 278 else 279
theorem b9Y(b:Nat)(line:B)(p:Nat)(c:UInt8)(h:List Res)(m:View)(hr:rdr b line p∈h)(hc:line[p]?=some c):CT prog 205 [.pointer (some ⟨b,0,none⟩)] h m (A7 h (.func (.func (nxF c)) #[.pointer (some ⟨b,0,none⟩)] #[])):=by
 have hp:p<line.length:=(List.getElem?_eq_some_iff.1 hc).1;refine cB [0,2,3,13,18,23,28] func205 λ_=>?_;refine Z1 ?_;refine dS [] (.op 0 (.op 1 (.op 2 (.op 3 (.op 4 (.op 5 (.op 6 (.op 7 .nil)))))))) [8,9] C4 ?_;refine kA3 ?_;refine yG rfl (E9 uu9 rfl Et hr rfl) ?_;refine kA3 ?_;refine yG rfl (E9 uu3 rfl Et hr rfl) ?_;refine SR.nil rfl rfl ?_;refine xG (I9 uu9 Et Et rfl (by assumption)) ?_;refine ZZ [1,1] ?_;refine xf (E1 Et) (a5Y _ _ _) ?_;refine Z1 ?_;refine wc ?_ ?_<;>intro c13
 refine kA1 ?_;refine xG (PO.makeFunc (E1 Et) Evs.nil) ?_;refine Z1 ?_;refine wT h ?_;exact⟨by unfold nxF;rw[c13];rfl,rfl⟩;refine kA1 ?_;refine xf (E1 Et) (a9L _ _ _) ?_;refine Z1 ?_;refine wc ?_ ?_<;>intro c18
 refine kA1 ?_;refine xG (PO.makeFunc (E1 Et) Evs.nil) ?_;refine Z1 ?_;refine wT h ?_;exact⟨by unfold nxF;rw[c13,c18];rfl,rfl⟩;refine Z3 ?_;refine wc ?_ ?_<;>intro c23
 refine kA1 ?_;refine xG (PO.makeFunc (E1 Et) Evs.nil) ?_;refine Z1 ?_;refine wT h ?_;exact⟨by unfold nxF;rw[c13,c18,c23];rfl,rfl⟩;refine Z3 ?_;refine wc ?_ ?_<;>intro c28
 refine kA1 ?_;refine xG (PO.makeFunc (E1 Et) Evs.nil) ?_;refine Z1 ?_;refine wT h ?_;exact⟨by unfold nxF;rw[c13,c18,c23,c28];rfl,rfl⟩;refine ZZ [0,1] ?_;refine xG (PO.makeFunc (E1 Et) Evs.nil) ?_;refine Z1 ?_;refine wT h ?_;exact⟨by unfold nxF;rw[c13,c18,c23,c28];rfl,rfl⟩
theorem c4Y(b:Nat)(line:B)(p:Nat)(c:UInt8)(h:List Res)(m:View)(hg:Glob m)(hr:rdr b line p∈h)(hc:line[p]?=some c)(hs:line.length<=140737488355328):CT prog (nxF c) [.pointer (some ⟨b,0,none⟩)] h m (A7 h (tkR (tok (line.drop p)))):=by
 have hp:p<line.length:=(List.getElem?_eq_some_iff.1 hc).1;have e0:chB (line.drop p) 0=(c.toNat:Int):=b3T (by rw[List.getElem?_drop];simpa using hc);unfold nxF tok;rw[e0];split
 ·exact c04 b line p h m hg hr (by omega) hs
 ·split
  ·exact c6W b line p h m hr (by omega) hs
  ·split
   ·exact c8o b line p h m hr hp hs
   ·split
    ·exact c4j b line p h m hr hp hs
    ·exact c4r b line p h m hg hr (by omega) hs
def d0n(h:List Res)(o:List Tok×Int×Int):Value->View->List Res->Prop:=λv _ h'=>∃a c,v=.tuple #[.slice a o.1.length c,.int .i64 o.2.1,.int .i64 o.2.2]/\h'=.row (.slice a o.1.length c) 97 4 o.1.length (fl A3 o.1)::h
theorem b5I(line:B)(h:List Res)(m:View)(hg:Glob m)(hs:line.length<=140737488355328):CT prog 107 [str line] h m (d0n h (lexO line)):=by
 refine cB [0,2,3,4,5,6,7,10,20,27,42] func107 λ_=>?_;refine WL.addNil 97 4 ?_;refine ZZ [3,1] ?_;refine xG (I8 uu9 Et) ?_;refine Z1 ?_;refine wc ?_ ?_<;>intro c10
 refine Z3 ?_;refine WC.ret (b0V (h':=.row (.slice none 0 0) 97 4 0 []::h) (.inl rfl) rfl (RV.tmp rfl) (RV.tmp rfl) (RV.tmp rfl) Vl Sb ?_);exact⟨none,0,by rw[a6d c10];rfl,by rw[a6d c10];rfl⟩;have h256:line.length<=256:=by have:=of_decide_eq_false c10;omega
 have hO:=a6u c10;refine ZZ [0,2] ?_;refine xX λb13=>?_;refine Z1 ?_;refine B1 [0,5] rfl (λμ F' h'=>∃p:Nat,∃n:Nat,∃l:List Tok,∃a:Option Addr,∃c:Nat,((p<=line.length/\n<=p/\l.length=n)/\lx line 0=a6P l (lx (line.drop p) p))/\line.length-p=μ/\F'=[(2,.slice a n c)]/\rdr b13 line p::.row (.slice a n c) 97 4 n (fl A3 l)::h=h') (line.length-0) [(2,.slice none 0 0)] (h0:=rdr b13 line 0::.row (.slice none 0 0) 97 4 0 (fl A3 ([]))::h) ?_ Sb ⟨0,0,[],none,0,⟨⟨by omega,by decide,rfl⟩,by rw[c2U];rfl⟩,rfl,rfl,rfl⟩ ?_;exact Su;rintro _ _ _ ⟨p,n,l,a,c,⟨⟨hp,hnp,hl⟩,hJ⟩,rfl,rfl,rfl⟩;refine B2 rfl ?_;refine kA5 ?_;refine xG (I8 uu9 Et) ?_;refine Z1 ?_;refine wD ?_ ?_<;>intro c20
 obtain⟨x,hx⟩:=A5 (l:=line) (k:=p) (by omega);refine ZZ [0,5] ?_;refine xG (I9 uu9 Et Et rfl (by assumption)) ?_;refine Z1 ?_;refine wc ?_ ?_<;>intro c27
 rw[b7U]at c27;have hx32:line[p]?=some 32:=by rw[hx,eq_of_beq c27]
 refine Z8 ?_;refine WC.exit (A6 (line.length-(p+1)) [(2,.slice a n c)] (h'':=rdr b13 line (p+1)::.row (.slice a n c) 97 4 n (fl A3 l)::h) (by omega) ?_ Su Sb ⟨p+1,n,l,a,c,⟨⟨by omega,by omega,hl⟩,b6g hx32 hJ⟩,rfl,rfl,rfl⟩);exact Su;rw[b7U]at c27;have hne:x≠32:=by simpa using c27
 have hn:=b7e (line.drop p);rw[List.length_drop]at hn;refine ZZ [0,1] ?_;refine xf (E1 Et) (b9Y b13 line p x _ _ Me hx) ?_;refine M6 (Ev.tmp rfl) Evs.nil (c4Y b13 line p x _ _ hg Me hx hs) Lb ?_;refine kA3 ?_;refine xW λb6=>?_
 refine ZZ [2,2,0] ?_;refine wc ?_ ?_<;>intro c42
 have hn0:(tok (line.drop p)).2=0:=by simp at c42;omega
 have hE:=c1S hx hne hn0 hJ;refine jE ?_;refine dS [] (.op 0 (.op 1 (.op 2 (.op 3 (.op 4 .nil))))) [5,6] C4 ?_;refine kA4 ?_;refine yG rfl (PO.assign Ek) ?_;refine SR.nil rfl rfl ?_;refine WL.addNil 97 4 ?_;refine Z2 ?_;refine WC.ret (b0V (h':=.row (.slice none 0 0) 97 4 0 []::h) (.inl rfl) rfl (RV.tmp rfl) (RV.tmp rfl) (RV.tmp rfl) Vl Sb ?_);exact⟨none,0,by rw[hO,hE];rfl,by rw[hO,hE];rfl⟩;have hn0:(tok (line.drop p)).2≠0:=by simp at c42;omega
 have hE:=c3b hx hne hn0 hJ;refine ZZ [0,6,2] ?_;refine xY B3 Eb λb54=>?_;refine xD B3 (Ev.tmp rfl) (Ev.tmp rfl) rfl (D4 (enc:=A3) _ ({ (tok (line.drop p)).1 with at_:=p })) λa55 c55=>?_
 refine ZZ [1,5] ?_;refine xG (L6 Et Et (by omega)) ?_;refine kA3 ?_;refine WL.nil (A6 (line.length-(p+(tok (line.drop p)).2)) [(2,.slice a55 (n+1) c55)] (h'':=rdr b13 line (p+(tok (line.drop p)).2)::.row (.slice a55 (n+1) c55) 97 4 (n+1) (fl A3 (l++[{ (tok (line.drop p)).1 with at_:=p }]))::h) (by omega) ?_ Su Sb ⟨p+(tok (line.drop p)).2,n+1,l++[{ (tok (line.drop p)).1 with at_:=p }],a55,c55,⟨⟨by omega,by omega,by rw[List.length_append,List.length_singleton,hl]⟩,hE⟩,rfl,rfl,rfl⟩);exact Su;rw[List.drop_eq_nil_of_le (by omega),c6Z]at hJ;have hE:lx line 0=.ok l:=by rw[hJ];simp[a6P]
 subst hl;refine ZZ [0,4,0] ?_;refine WC.ret (b0V (h':=.row (.slice a l.length c) 97 4 l.length (fl A3 l)::h) (.inl rfl) rfl (RV.tmp rfl) (RV.tmp rfl) (RV.tmp rfl) Vl Sb ?_);exact⟨a,c,by rw[hO,hE];rfl,by rw[hO,hE];rfl⟩
end
section
open Go.Eng Go.Pc Go.Sx Go
open Go.Xp hiding B C9
open Go.Ty (Ty Vr Tok eqT tyV I7 A3 B8 O4 zeroK M8 D3)
open Go.Lx (encB encB_len lexO)
open Go.Ly (Rw P4 F9)
abbrev psR(z:Pz)(i:Nat):Res:=.pt z.bp (.cells [.slice z.ra z.R.length z.rc,.int .i64 (i:Nat)].toArray 76 (0,0))
abbrev tkW(a:Option Addr)(c:Nat)(ts:List Tok):Res:=.row (.slice a ts.length c) 97 4 ts.length (fl A3 ts)
abbrev prR(b:Nat)(p:Pr):Res:=.pt b (.cells (prE p).toArray 45 (0,0))
abbrev PrE{β:Type}(z:Pz)(M:Except (Int×Nat) β)(h:List Res)(v:Value)(h':List Res):Prop:=∃e j,M=.error (e,j)/\v=wrV e/\h'=psR z j::h
abbrev PrX{α:Type}(m:View)(z:Pz)(f:FuncId)(args:List Value)(i:Nat)(h0 h:List Res)(M:PE α)(O:α->Value->List Res->Prop):Prop:=
 CX prog f args (psR z i::h0) m (λv _ h'=>∃x j bl,M=.ok (x,j)/\(i<j/\j<=z.R.length)/\O x v bl/\h'=psR z j::(bl++h)) (λv h'=>PrE z M h v h')
abbrev OP(m:View)(x:Pr)(v:Value)(bl:List Res):Prop:=∃p,v=prV p/\stP p=x/\POk m bl p
abbrev OGs(m:View)(x:List Gu)(v:Value)(bl:List Res):Prop:=∃a c l,v=.slice a l.length c/\l.map stG=x/\Gs m bl a c l
theorem I5{x:Res}{l:List Res}(h:x∈l):[x].Sublist l:=List.singleton_sublist.2 h
theorem prP{β:Type}(fn:Func){n:Cx}{F:Fm}{H h:List Res}{m:View}{z:Pz}{R:Value->View->List Res->Prop}{M:Except (Int×Nat) β}{e:Int}{j:Nat}(hq:M=.error (e,j))(hd:(psR z j::h).Sublist H)(hds:n.ds=[]:=by rfl) :
 ∀a w,Fr n F a->St m H w->bodyPost prog fn (RX m R (λv h'=>PrE z M h v h')) (.panic [{ v:=wrV e,recovered:=false }]) a w:=a2R (psR z j::h) Vl hd ⟨e,j,hq,rfl,rfl⟩ hds
theorem a7k{m:View}{z:Pz}(hz:Pok m z)(i:Nat)(d:Int)(h:List Res)(hb:psR z i∈h):CT prog 108 [ptV z.bp,.int .i64 d] h m (A7 h (.bool (S4 z.R d i))):=by
 have hrd:=hz.rd.mono Vl (List.nil_sublist h);obtain⟨x,hx⟩:∃x,x=z.R.getD i ⟨0,0,[]⟩:=⟨_,rfl⟩;have hel:i<z.R.length->z.R[i]?=some x:=λhq=>by rw[hx,List.getD_eq_getElem?_getD,List.getElem?_eq_getElem hq];rfl
 have hH:S4 z.R d i=(decide ((i:Int)<z.R.length)&&(x.depth==d)):=by
  unfold S4;by_cases hq:i<z.R.length
  ·rw[hel hq,decide_eq_true (by omega:(i:Int)<z.R.length)];rfl
  ·rw[List.getElem?_eq_none (by omega),decide_eq_false (by omega:¬(i:Int)<z.R.length)];rfl
 refine cB [0,1,4] func108 λ_=>?_;refine Z1 ?_;refine dS [] (.op 0 (.op 1 (.op 2 (.op 3 (.op 4 (.op 5 (.op 6 (.op 7 (.op 8 (.op 9 (.op 10 (.op 11 (.op 12 (.op 13 (.op 14 (.op 15 (.op 16 (.op 17 (.op 18 (.op 19 (.op 20 (.op 21 (.op 22 .nil))))))))))))))))))))))) [23,24,25] C4 ?_;refine kA3 ?_;refine yG rfl (E9 uu3 rfl Et hb rfl) ?_;refine kA3 ?_;refine yG rfl (E9 b7j rfl Et hb rfl) ?_;refine yG rfl (Y8 b7j Et) ?_;refine yG rfl (P0 Et Et rfl) ?_;refine kA1 ?_;refine C0 rfl rfl (GU.t rfl rfl) (λhc=>PO.move Et) Lb ?_;refine C0 rfl rfl (GU.t rfl rfl) (λhc=>PO.nilCheck (Eg hc)) Lb ?_;refine C0 rfl rfl (GU.t rfl rfl) (λhc=>PO.fieldAddr c8p rfl (Nat.ne_of_beq_eq_false rfl) (Eg hc)) Lb ?_;refine C0 rfl rfl (GU.t rfl rfl) (λhc=>E9 b7j rfl (Eg hc) hb rfl) Lb ?_;refine C0 rfl rfl (GU.t rfl rfl) (λhc=>PO.move Et) Lb ?_;refine C0 rfl rfl (GU.t rfl rfl) (λhc=>PO.nilCheck (Eg hc)) Lb ?_
 refine C0 rfl rfl (GU.t rfl rfl) (λhc=>PO.fieldAddr c8p rfl (Nat.ne_of_beq_eq_false rfl) (Eg hc)) Lb ?_;refine C0 rfl rfl (GU.t rfl rfl) (λhc=>E9 uu3 rfl (Eg hc) hb rfl) Lb ?_;refine C0 rfl rfl (GU.t rfl rfl) (λhc=>D8 a0J.und a0J.size a0J.posz (Eg hc) (Eg hc) Rr rfl (by simp at hc;omega)) Lb ?_;refine C0 rfl rfl (GU.t rfl rfl) (λhc=>G6 b2K rfl (Nat.ne_of_beq_eq_false rfl) F9 (Nat.succ_pos _) Rr (hel (by simp at hc;omega)) (Eg hc)) Lb ?_;refine C0 rfl rfl (GU.t rfl rfl) (λhc=>G8 uu3 rfl F9 Rr (Eg hc) (hel (by simp at hc;omega)) rfl) Lb ?_;refine C0 rfl rfl (GU.t rfl rfl) (λhc=>PO.move Et) Lb ?_;refine SR.nil rfl rfl ?_;refine Z3 ?_;refine wT h ?_;exact⟨by rw[hH],rfl⟩
theorem c3J{m:View}(hg:Glob m)(line:B)(h:List Res)(hs:line.length<=140737488355328):CX prog 107 [str line] h m (λv _ h'=>∃hp',h'=hp'++h/\∃a c,v=.tuple #[.slice a (lexO line).1.length c,.int .i64 (lexO line).2.1,.int .i64 (lexO line).2.2]/\hp'=[tkW a c (lexO line).1]) (λ_ _=>False):=
 CX.ofCT (CT.conv (b5I line h m hg hs) λ_ m' _ _ _ st ⟨a,c,e1,e2⟩=>⟨m',[tkW a c (lexO line).1]++h,Vl,by rw[e2]at st;exact st,_,rfl,a,c,e1,rfl⟩)
theorem a4L{m:View}(hg:Glob m){z:Pz}(hz:Pok m z)(i:Nat)(d:Int)(h:List Res)(hi:i<=z.R.length):CX prog 51 [ptV z.bp,.int .i64 d] (psR z i::h) m
 (λv _ h'=>∃ts b a c,a1Z z.R d i=.ok ts/\v=ptV b/\Tk2 m [tkW a c ts] a c ts/\h'=lnR b a ts.length c::tkW a c ts::psR z i::h) (λv h'=>PrE z (a1Z z.R d i) h v h'):=by
 have hrd:=hz.rd.mono Vl (List.nil_sublist (psR z i::h));obtain⟨x,hx⟩:∃x,x=z.R.getD i ⟨0,0,[]⟩:=⟨_,rfl⟩;have hel:i<z.R.length->z.R[i]?=some x:=λhq=>by rw[hx,List.getD_eq_getElem?_getD,List.getElem?_eq_getElem hq];rfl
 have hq:a1Z z.R d i=if i<z.R.length then(if(lexO x.text).2.2≠0 then .error ((lexO x.text).2.2,i)else if x.depth≠d then .error (110,i)else .ok (lexO x.text).1)else .error (110,i):=by
  by_cases hq:i<z.R.length
  ·rw[if_pos hq];unfold a1Z;rw[hel hq]
  ·rw[if_neg hq];exact a3V (by omega)
 have hH:i<z.R.length->S4 z.R d i=(x.depth==d):=λhq=>by unfold S4;rw[hel hq]
 refine xB [0,1,4,5,7,17,36,43] func51 λ_=>?_;refine Z1 ?_;refine dS [] (.op 0 (.op 1 (.op 2 (.op 3 (.op 4 (.op 5 (.op 6 (.op 7 (.op 8 .nil))))))))) [9] C4 ?_;refine kA8 ?_;refine yG rfl (Y8 b7j Et) ?_;refine SR.nil rfl rfl ?_;refine Z1 ?_;refine wE ?_ ?_<;>intro c17
 rw[if_neg (by omega)]at hq;refine j0 ?_;refine A1 Ef Evs.nil (K9 _ _) Lb (λv hv hx=>?_) λv18 h18 hr18=>?_
 ·obtain⟨rfl,rfl⟩:=hx;exact prP Tryz.f51 hq Sb
 exact hr18.elim;have hi2:i<z.R.length:=by omega
 rw[if_pos hi2]at hq;have hel:=hel hi2;have hH:=hH hi2;have htx:=(hz.ok.2 x (List.mem_of_getElem? hel)).2.2;refine Z0 ?_;refine F3 [11] (.op 0 (.op 1 (.op 2 (.op 3 (.op 4 (.op 5 (.op 6 (.op 7 (.op 8 (.op 9 (.op 10 (.op 11 (.op 12 (.op 13 (.op 14 (.op 15 .nil)))))))))))))))) [16,17,18] _ [] C4 (λ_ _ _ _ _ h=>h) [14,15] (by kernel_rfl) ?_;refine kA8 ?_;refine yG rfl (D8 a0J.und a0J.size a0J.posz (Ev.tmp rfl) (Ev.tmp rfl) Rr rfl (q:=i) (by omega)) ?_;refine kA2 ?_;refine a1M rfl rfl Ef (E1 Et) (λfr=>c3J hg x.text _ (by omega)) Lb (λfr v hv hx=>?_) λv31 h31 hr31=>?_
 ·exact hx.elim
 obtain⟨a31,c31,rfl,rfl⟩:=hr31;refine kA1 ?_;refine yG rfl (PO.extract Et rfl) ?_;refine yG rfl (PO.extract Et rfl) ?_;refine yG rfl (PO.extract Et rfl) ?_;refine SR.nil rfl rfl ?_;refine ZZ [3,2,0] ?_;refine wN ?_ ?_<;>intro c36
 rw[if_pos c36]at hq;refine kA2 ?_;refine xG (a0h b8K Et) ?_;refine WL.panic Et (a2R (P:=prog) (fn:=Tryz.f51) (psR z i::h) Vl Sb ?_);exact⟨_,_,hq,rfl,rfl⟩;rw[if_neg (by omega)]at hq;refine ZZ [0,2] ?_;refine xf (E2 Et Et) (CT.val (a7k hz i d _ Me) (congrArg Value.bool hH)) ?_;refine Z1 ?_;refine wc ?_ ?_<;>intro c43
 have d43:x.depth≠d:=by simpa using c43
 rw[if_pos d43]at hq;refine j0 ?_;refine A1 Ef Evs.nil (K9 _ _) Lb (λv hv hx=>?_) λv44 h44 hr44=>?_
 ·obtain⟨rfl,rfl⟩:=hx;exact prP Tryz.f51 hq Sb
 exact hr44.elim;have d43:x.depth=d:=by simpa using c43
 rw[if_neg (by rw[d43];exact λq=>q rfl)]at hq;have hb:=a9j x.text;refine Q7 (a:=a31) Me λp31 q31 r31=>?_
 refine ZZ [0,2] ?_;refine xX λb47=>?_;refine Z1 ?_;refine xT (lnR b47 a31 (lexO x.text).1.length c31::tkW a31 c31 (lexO x.text).1::psR z i::h) ?_;exact⟨(lexO x.text).1,b47,a31,c31,hq,rfl,⟨⟨Rd.inRow (List.Mem.head _) r31 p31 q31,by omega,c5I _⟩,λt ht=>(hb.2 t ht).2⟩,rfl⟩
theorem N5{m:View}{z:Pz}(hz:Pok m z)(i:Nat)(b:Nat)(a:Option Addr)(c:Nat)(ts:List Tok)(h:List Res)(hi:i<=z.R.length):CX prog 183 [ptV z.bp,ptV b] (psR z i::lnR b a ts.length c::h) m
 (λ_ _ h'=>ts=[]/\h'=psR z (i+1)::h) (λv h'=>ts≠[]/\v=wrV 110/\h'=psR z i::h):=by
 have hR:=hz.ok.1;refine xB [0,9] func183 λ_=>?_;refine Z6 ?_;refine wD ?_ ?_<;>intro c9
 refine j0 ?_;refine A1 Ef Evs.nil (K9 _ _) Lb (λv hv hx=>?_) λv10 h10 hr10=>?_
 ·obtain⟨rfl,rfl⟩:=hx
  exact a2R (P:=prog) (fn:=Tryz.f183) (psR z i::h) Vl Sb ⟨by rintro rfl;simp at c9,rfl,rfl⟩
 exact hr10.elim;refine ZZ [0,5] ?_;refine WL.val (v':=.int .i64 ((i+1:Nat):Int)) (congrArg (Value.int .i64) (by omega)) ?_;refine kA3 ?_;refine WL.nil (toX (.inr rfl) (b2V (h':=psR z (i+1)::h) (.inr rfl) rfl  Vl Sb ?_));exact⟨List.eq_nil_of_length_eq_zero (by omega),rfl⟩
theorem b3G{m:View}(hg:Glob m){z:Pz}(hz:Pok m z)(i:Nat)(d:Int)(u:Tok)(a1:Option Addr)(c1:Nat)(h:List Res)(hi:i<=z.R.length)(hu:Rd m h a1 1 c1 4 (fl A3 [u])) :
 CX prog 184 [ptV z.bp,.int .i64 d,.slice a1 1 c1] (psR z i::h) m
 (λ_ _ h'=>i<z.R.length/\(∀(β:Type)(f:Nat->PE β),a3P z.R d u.kind u.text i f=f (i+1))/\h'=psR z (i+1)::h) (λv h'=>∃e,(∀(β:Type)(f:Nat->PE β),a3P z.R d u.kind u.text i f=.error (e,i))/\v=wrV e/\h'=psR z i::h):=by
 have hR:=hz.ok.1;have hq:∀(β:Type)(f:Nat->PE β),a3P z.R d u.kind u.text i f=a2n z.R d i λts=>a0l u.kind u.text ts i λr=>I0 r i f:=λ_ _=>rfl
 refine xB [0,2,6] func184 λ_=>?_;refine kA2 ?_;refine pD (psR z i) ?_;refine A1 Ef (E2 Et Et) (a4L hg hz i _ _ (by omega)) Lb (λv hv hx=>?_) λv9 h9 hr9=>?_
 ·obtain⟨e,j,hx1,rfl,rfl⟩:=hx
  obtain rfl:i=j:=by
   unfold a1Z at hx1;split at hx1
   ·cases hx1;rfl
   ·split at hx1
    ·cases hx1;rfl
    ·split at hx1
     ·cases hx1;rfl
     ·cases hx1
  exact a2R (P:=prog) (fn:=Tryz.f184) (psR z i::h) Vl Sb ⟨e,λβ f=>(hq β f).trans (M0 hx1),rfl,rfl⟩
 obtain⟨r9,b9,a9,u9,hM9,rfl,hk9,rfl⟩:=hr9;have ho9:=a2A hz hM9;replace hq:∀(β:Type)(f:Nat->PE β),a3P z.R d u.kind u.text i f=a0l u.kind u.text r9 i λr=>I0 r i f:=λβ f=>(hq β f).trans (a5a hM9)
 refine ZZ [1,2] ?_;refine pD (lnR b9 a9 r9.length u9) ?_;refine A1 Ef (E2 Et Et) (Q9 b9 a9 u9 r9 u _ _ _ _ hk9 (I5 Me) (hu.mono Vl Sb)) Lb (λv hv hx=>?_) λv12 h12 hr12=>?_
 ·obtain⟨hx1,rfl,rfl⟩:=hx
  exact a2R (P:=prog) (fn:=Tryz.f184) (psR z i::h) Vl Sb ⟨_,λβ f=>(hq β f).trans (a3q hx1),rfl,rfl⟩
 obtain⟨hi12,a12,u12,hk12,rfl⟩:=hr12;replace hq:∀(β:Type)(f:Nat->PE β),a3P z.R d u.kind u.text i f=I0 r9.tail i f:=λβ f=>(hq β f).trans (a3p hi12)
 refine ZZ [0,2] ?_;refine pP (psR z i) (lnR b9 a12 r9.tail.length u12) ?_;refine A1 Ef (E2 Et Et) (N5 hz i b9 a12 u12 r9.tail _ hi) Lb (λv hv hx=>?_) λv15 h15 hr15=>?_
 ·obtain⟨hx1,rfl,rfl⟩:=hx
  exact a2R (P:=prog) (fn:=Tryz.f184) (psR z i::h) Vl Sb ⟨_,λβ f=>(hq β f).trans (P7 hx1),rfl,rfl⟩
 obtain⟨hz15,rfl⟩:=hr15;refine WL.nil (toX (.inr rfl) (b2V (h':=psR z (i+1)::h) (.inr rfl) rfl  Vl Sb ?_));exact⟨ho9.1.1,λβ f=>(hq β f).trans (P8 hz15),rfl⟩
abbrev p0(k:Int)(nm:B)(ch:Ex)(tg ex:Sli Ex)(rep:Rp):Pr:=.mk k nm ch tg ex rep none 0 [] none 0 [] B0 C3
theorem b2N{m:View}{z:Pz}(hz:Pok m z)(k:Int)(i:Nat)(b:Nat)(a:Option Addr)(c:Nat)(ts:List Tok)(h:List Res)(hi:i<z.R.length) :
 CX prog 269 [ptV z.bp,.int .u8 k,ptV b] (psR z i::lnR b a ts.length c::h) m
 (λv _ h'=>ts=[]/\v=prV (p0 k [] A2 B0 B0 F2)/\h'=psR z (i+1)::h) (λv h'=>ts≠[]/\v=wrV 110/\h'=psR z i::h):=by
 refine xB [0,1,2,6] func269 λ_=>?_;refine xW λb6=>?_
 refine ZZ [0,2] ?_;refine pP (psR z i) (lnR b a ts.length c) ?_;refine A1 Ef (E2 Et Et) (N5 hz i b a c ts _ (by omega)) Lb (λv hv hx=>?_) λv9 h9 hr9=>?_
 ·obtain⟨hx1,rfl,rfl⟩:=hx
  exact a2R (P:=prog) (fn:=Tryz.f269) (psR z i::h) Vl Sb ⟨hx1,rfl,rfl⟩
 obtain⟨hz9,rfl⟩:=hr9;refine ZZ [0,3,0] ?_;refine xT (psR z (i+1)::h) (h1:=cA S9) ?_;exact⟨hz9,rfl,rfl⟩
theorem b9e(m:View)(h:List Res){k:Int}(hk:0<=k/\k<=255):POk m h (p0 k [] A2 B0 B0 F2):=a6l hk (Nat.zero_le _) (H5 _ _) (I4 _ _) (I4 _ _) (a0g _ _) (a1y _ _) (a4x _ _) (a0D _ _) (W2 _ _)
end
section
open Go.Eng Go.Pc Go.Sx Go
open Go.Xp hiding B C9
open Go.Ty (Ty Vr Tok eqT tyV I7 A3 B8 O4 zeroK M8 D3)
open Go.Lx (encB encB_len lexO)
open Go.Ly (Rw P4 F9)
abbrev REC(m:View)(z:Pz)(n:Nat):Prop:=∀(i:Nat)(d:Int)(top:Bool)(h:List Res),i<=z.R.length->z.R.length<=i+n->(0<=d/\d<=34) ->
 PrX m z 50 [ptV z.bp,.int .i64 d,.bool top] i h h (C7 z.R n d top i) (OP m)
abbrev QrX{α:Type}(m:View)(z:Pz)(f:FuncId)(args:List Value)(i b:Nat)(a:Option Addr)(c:Nat)(ts:List Tok)(h:List Res)(M:PE α)(O:α->Value->List Res->Prop):Prop:=PrX m z f args i (lnR b a ts.length c::h) h M O
theorem a1n{α:Type}{p:α->Prop}{x:α}(h:p x):∀y∈[x],p y:=λ_ hy=>(List.mem_singleton.1 hy)▸h
theorem c5d{α:Type}{p:α->Prop}{x y:α}(h:p x)(h2:p y):∀u∈[x,y],p u:=λu hu=>by
 rcases List.mem_cons.1 hu with rfl|hu
 ·exact h
 ·exact(List.mem_singleton.1 hu)▸h2
abbrev exR(b:Nat)(t:Ex):Res:=.pt b (.cells (exE t).toArray 28 (0,0))
abbrev b6h(b:Nat)(p q:Pr):Res:=.pt b (.cells (prE p++prE q).toArray 45 (0,0))
theorem c7F{m:View}{h:List Res}{t:Ex}(b:Nat)(q:EOk m h t):LOk m (exR b t::h) ⟨some ⟨b,0,none⟩,1,[t]⟩:=
 ⟨Rd.ofPt rfl (by show 1<=_;decide) (List.Mem.head _),a1n (q.mono (List.sublist_cons_self _ _))⟩
theorem c7k{m:View}{z:Pz}{n:Nat}(hrec:REC m z n)(i:Nat)(d:Int)(top:Bool)(h:List Res)(h1:i<=z.R.length)(h2:z.R.length<=i+n)(h3:0<=d/\d<=34) :
 CX prog 50 [ptV z.bp,.int .i64 d,.bool top] (psR z i::h) m (λv _ h'=>∃hp,h'=hp++h/\∃p j bl,C7 z.R n d top i=.ok (stP p,j)/\(i<j/\j<=z.R.length)/\v=prV p/\POk m bl p/\hp=psR z j::bl) (λv h'=>PrE z (C7 z.R n d top i) h v h'):=
 (hrec i d top h h1 h2 h3).mono (λ_ _ _ ⟨_,j,bl,hM,hj,⟨p,e1,e2,hO⟩,e3⟩=>⟨psR z j::bl,e3,p,j,bl,e2▸hM,hj,e1,hO,rfl⟩) λ_ _ q=>q
abbrev PrY{α:Type}(m:View)(z:Pz)(f:FuncId)(args:List Value)(i:Nat)(h:List Res)(M:PE α)(O:α->Value->List Res->Prop):Prop:=
 CX prog f args (psR z i::h) m (λv _ h'=>∃x j bl,M=.ok (x,j)/\(i<=j/\j<=z.R.length)/\O x v bl/\h'=psR z j::(bl++h)) (λv h'=>PrE z M h v h')
abbrev a5q(g:Gu)(b:Nat)(p:Pr):Gu:=.mk g.k g.name g.cond g.ch g.tg g.vl g.time (some ⟨b,0,none⟩) 1 [p]
theorem c1l(g:Gu)(b:Nat)(p:Pr):stG (a5q g b p)=b8H (stG g) (stP p):=by cases g;rfl
theorem c2X{m:View}{h:List Res}{g:Gu}{b:Nat}{p:Pr}(q:GOk m h g):GOk m (prR b p::h) (a5q g b p):=
 have q:=q.mono (List.sublist_cons_self (prR b p) h)
 ⟨q.k,q.n,q.cond,q.ch,q.tg,q.vl,q.time,Rd.ofPt rfl (by show 1<=_;decide) (List.Mem.head _)⟩
theorem X9(p:Pr):stP p=prM p.k p.name (C6 p.ch) (p.tg.l.map C6) (p.ex.l.map C6) (stR p.rep) (p.gl.map stG) (p.ll.map stP) p.pn.l (stS p.sp):=by cases p;rw[stP,b0x,a5s];rfl
theorem a7Z{m:View}(hg:Glob m){z:Pz}(hz:Pok m z){n:Nat}(hrec:REC m z n)(q:FuncId)(row:List Tok->E Gu)(least most:Nat)(d:Int)(i:Nat)(h:List Res)(hi:i<=z.R.length)(hf:z.R.length<=i+n+1)(hd:0<=d/\d<=33)
 (hrow:∀(b:Nat)(a:Option Addr)(c:Nat)(ts:List Tok)(h hT:List Res),Tk2 m hT a c ts->hT.Sublist h->LnX m q [ptV b] b a c ts hT h (row ts) (OG m)) :
 PrY m z 203 [ptV z.bp,.int .i64 d,.agg #[.int .i64 least,.int .i64 most],.func (.func q) #[] #[]] i h (a3o z.R (C7 z.R n) row least most d i) (OGs m):=by
 have hR:=hz.ok.1;refine xB [0,1,3,6,8,9,10,11,28] func203 λ_=>?_;refine xX λb6=>?_
 refine Z1 ?_;refine WL.addNil 100 23 ?_;refine kA1 ?_;refine pD (psR z i) ?_;refine Z0 ?_
 refine B1 [0,1,3,6] rfl (λμ F' h'=>∃a9:Option Addr,∃c9:Nat,∃l:List Gu,∃bl:List Res,∃k:Nat,∃j:Nat,((l.length+i<=j/\j<=z.R.length/\z.R.length<=j+k)/\((∀g∈l,GOk m bl g)/\∀g∈l,∀x∈g.bl,POk m bl x)/\a3o z.R (C7 z.R n) row least most d i=a1o z.R (C7 z.R n) row least most d k (l.map stG) j)/\k=μ/\F'=[(9,.slice a9 l.length c9)]/\psR z j::.row (.slice a9 l.length c9) 100 23 l.length (fl guE l)::.pt b6 (.cells [Value.int .i64 least,.int .i64 most].toArray 190 (0,0))::(bl++h)=h') ((z.R.length-i)) [(9,.slice none ([]).length 0)] (h0:=psR z i::.row (.slice none ([]).length 0) 100 23 ([]).length (fl guE ([]))::.pt b6 (.cells [Value.int .i64 least,.int .i64 most].toArray 190 (0,0))::(([])++h)) ?_ Sb ⟨none,0,[],[],z.R.length-i,i,⟨⟨by simp,hi,by omega⟩,⟨λ_ hx=>(List.not_mem_nil hx).elim,λ_ hx=>(List.not_mem_nil hx).elim⟩,rfl⟩,rfl,rfl,rfl⟩ ?_;exact Su
 rintro _ _ _ ⟨a9,c9,l,bl,k,j,⟨⟨hl,hj,hk⟩,⟨hG,hS⟩,hJ⟩,rfl,rfl,rfl⟩;refine B2 rfl ?_;refine a8L ?_;refine kA2 ?_;refine A4 (a0q rfl rfl) (λhc=>⟨Ef,(E2 (Eg hc) (Eg hc)),a7k hz j d _ Me⟩) Lb ?_;refine zG (λhc=>Q2 hc rfl rfl) ?_;refine Z1 ?_;refine wc ?_ ?_<;>intro c28
 have hlm:(l.map stG).length=l.length:=List.length_map _;have hc:(l.map stG).length<least\/((l.map stG).length<most/\S4 z.R d j=true):=by simp only[Bool.or_eq_true,Bool.and_eq_true,decide_eq_true_eq]at c28;rw[hlm];exact c28.imp (λq=>by omega) λq=>⟨by omega,q.2⟩
 have hq:=hJ.trans (b9W hk hc);refine ZZ [0,2] ?_;refine pD (psR z j) ?_;refine A1 Ef (E2 Et Et) (a4L hg hz j _ _ (by omega)) Lb (λv hv hx=>?_) λv31 h31 hr31=>?_
 ·obtain⟨e,j,hx1,rfl,rfl⟩:=hx;(first|rw[hx1]at hq|rw[M0 hx1]at hq);exact prP Tryz.f203 hq Sb
 obtain⟨r31,b31,a31,u31,hM31,rfl,hk31,rfl⟩:=hr31;have ho31:=a2A hz hM31;rw[a5a hM31]at hq;refine ZZ [1,2] ?_;refine pD (lnR b31 a31 r31.length u31) ?_;refine A1 (Ev.tmp rfl) (E1 (Ev.tmp rfl)) (hrow b31 a31 u31 r31 _ _ hk31 (I5 Me)) Lb (λv hv hx=>?_) λv34 h34 hr34=>?_
 ·obtain⟨e,hx1,rfl,rfl⟩:=hx;rw[hx1]at hq;exact prP Tryz.f203 hq Sb
 obtain⟨x34,r34,a34,u34,bl34,hM34,⟨g34,rfl,rfl,hO34⟩,hk34,rfl⟩:=hr34;refine WL.perm ((Mv.perm).cons _) ?_;rw[hM34,L4]at hq;refine xW λb11=>?_
 refine ZZ [1,2] ?_;refine pP (psR z j) (lnR b31 a34 r34.length u34) ?_;refine A1 Ef (E2 Et Et) (N5 hz j b31 a34 u34 r34 _ (by omega)) Lb (λv hv hx=>?_) λv37 h37 hr37=>?_
 ·obtain⟨hx1,rfl,rfl⟩:=hx;rw[P7 hx1]at hq;exact prP Tryz.f203 hq Sb
 obtain⟨hz37,rfl⟩:=hr37;rw[P8 hz37]at hq;refine ZZ [0,3] ?_;refine pD (psR z (j+1)) ?_;refine A1 Ef (E3 Et Et Ek) (hrec (j+1) _ _ _ (by omega) (by omega) (by omega)) Lb (λv hv hx=>?_) λv41 h41 hr41=>?_
 ·obtain⟨e,j,hx1,rfl,rfl⟩:=hx;(first|rw[hx1]at hq|rw[M0 hx1]at hq);exact prP Tryz.f203 hq Sb
 obtain⟨x41,j41,bl41,hM41,hj41,⟨p41,rfl,rfl,hO41⟩,rfl⟩:=hr41;refine WL.perm ((Mv.perm).cons _) ?_;rw[hM41,S1]at hq;refine xY T9 Eb λb42=>?_
 refine WL.perm (Mv.perm (bl:=[_])) ?_;refine ZZ [2,2] ?_;refine xY b2Y Eb λb46=>?_;have hln:(l++[a5q g34 b42 p41]).length=l.length+1:=List.length_append;refine xD b2Y (Ev.tmp rfl) (Ev.tmp rfl) (show l.length+1=(l++[a5q g34 b42 p41]).length by simp) (D4 (enc:=guE) _ (a5q g34 b42 p41)) λa47 c47=>?_
 refine kA1 ?_;rw[<-List.append_assoc bl34 bl h,<-List.append_assoc bl41];have s1:bl.Sublist (prR b42 p41::(bl41++(bl34++bl))):=(c0Q bl41 bl34 bl).cons _;have s2:(prR b42 p41::bl34).Sublist (prR b42 p41::(bl41++(bl34++bl))):=(c2M bl41 bl34 bl).cons_cons _;have s3:bl41.Sublist (prR b42 p41::(bl41++(bl34++bl))):=(List.sublist_append_left _ _).cons _;have hm2:(l++[a5q g34 b42 p41]).map stG=l.map stG++[b8H (stG g34) (stP p41)]:=by rw[List.map_append,List.map_singleton,c1l]
 refine WL.nil (A6 ((k-1)) [(9,.slice a47 (l++[a5q g34 b42 p41]).length c47)] (h'':=psR z j41::.row (.slice a47 (l++[a5q g34 b42 p41]).length c47) 100 23 (l++[a5q g34 b42 p41]).length (fl guE (l++[a5q g34 b42 p41]))::.pt b6 (.cells [Value.int .i64 least,.int .i64 most].toArray 190 (0,0))::((prR b42 p41::(bl41++(bl34++bl)))++h)) (by omega) ?_ Su Sb ⟨a47,c47,l++[a5q g34 b42 p41],prR b42 p41::(bl41++(bl34++bl)),k-1,j41,⟨⟨by omega,by omega,by omega⟩,⟨a0u (λy hy=>(hG y hy).mono s1) ((c2X hO34).mono s2),a0u (λy hy x hx=>(hS y hy x hx).mono s1) (λx hx=>(List.mem_singleton.1 (show x∈[p41] from hx))▸hO41.mono s3)⟩,hq.trans (by rw[hm2])⟩,rfl,rfl,rfl⟩);exact Su;have hlm:(l.map stG).length=l.length:=List.length_map _;have hc:¬((l.map stG).length<least\/((l.map stG).length<most/\S4 z.R d j=true)):=λq=>by
  rw[hlm]at q;have:(decide ((l.length:Int)<least)||(decide ((l.length:Int)<most)&&S4 z.R d j))=true:=by simp only[Bool.or_eq_true,Bool.and_eq_true,decide_eq_true_eq];exact q.imp (λq=>by omega) λq=>⟨by omega,q.2⟩
  rw[this]at c28;cases c28
 have hq:=hJ.trans (b5e hc);refine Q7 (a:=a9) Me λp9 q9 r9=>?_;refine ZZ [0,2,0] ?_;refine xT (psR z j::.row (.slice a9 l.length c9) 100 23 l.length (fl guE l)::(bl++h)) ?_;exact⟨_,j,.row (.slice a9 l.length c9) 100 23 l.length (fl guE l)::bl,hq,⟨by omega,hj⟩,⟨a9,c9,l,rfl,rfl,Rd.inRow (List.Mem.head _) r9 p9 q9,λg hg=>(hG g hg).mono (List.sublist_cons_self _ _),λg hg x hx=>(hS g hg x hx).mono (List.sublist_cons_self _ _)⟩,rfl⟩
theorem b5V{m:View}(hg:Glob m){z:Pz}(hz:Pok m z){n:Nat}(hrec:REC m z n)(kd:Int)(hk0:0<=kd/\kd<=255)(d:Int)(i b:Nat)(a:Option Addr)(c:Nat)(ts:List Tok)(h hT:List Res)(hk:Tk2 m hT a c ts)(hs:hT.Sublist h)(hi:i<z.R.length)(hf:z.R.length<=i+n+1)(hd:0<=d/\d<=32) :
 QrX m z 270 [ptV z.bp,.int .u8 kd,.int .i64 d,ptV b] i b a c ts h (a4Z z.R (C7 z.R n) kd d ts i) (OP m):=by
 have hR:=hz.ok.1;have hq:a4Z z.R (C7 z.R n) kd d ts i=L0 (b6i ts) i λr ts=>I0 ts i λi=>if r.name≠[]then U6 (C7 z.R n (d+1) false i) λx i=>.ok (prM kd [] A2 [] [] r [] [x] [] C3,i)
  else U6 (a3K z.R (C7 z.R n) (d+1) (z.R.length-i) [] i) λl i=>.ok (prM kd [] A2 [] [] r [] l [] C3,i):=rfl
 refine xB [0,1,2,3,8,9,20,31] func270 λ_=>?_;refine xW λb8=>?_
 refine ZZ [0,2] ?_;refine pD (lnR b a ts.length c) ?_;refine A1 Ef (E1 Et) (c3T hg b a c ts _ _ hk (hs.trans Sb)) Lb (λv hv hx=>?_) λv12 h12 hr12=>?_
 ·obtain⟨e,hx1,rfl,rfl⟩:=hx;rw[hx1]at hq;exact prP Tryz.f270 hq Sb
 obtain⟨x12,r12,a12,u12,bl12,hM12,⟨p12,rfl,rfl,hn12,hu12,hv12⟩,hk12,rfl⟩:=hr12;refine WL.perm ((Mv.perm).cons _) ?_;rw[hM12,L4]at hq;refine kA1 ?_;refine xW λb9=>?_
 refine ZZ [1,2] ?_;refine pP (psR z i) (lnR b a12 r12.length u12) ?_;refine A1 Ef (E2 Et Et) (N5 hz i b a12 u12 r12 _ (by omega)) Lb (λv hv hx=>?_) λv16 h16 hr16=>?_
 ·obtain⟨hx1,rfl,rfl⟩:=hx;rw[P7 hx1]at hq;exact prP Tryz.f270 hq Sb
 obtain⟨hz16,rfl⟩:=hr16;rw[P8 hz16]at hq;refine ZZ [0,3] ?_;refine xG (S2 Et Ek) ?_;refine Z0 ?_;refine wc ?_ ?_<;>intro c20
 have c20:p12.name≠[]:=by simpa using c20
 rw[if_pos (show(stR p12).name≠[] from c20)]at hq;refine kA3 ?_;refine pD (psR z (i+1)) ?_;refine A1 Ef (E3 Et Et Ek) (hrec (i+1) _ _ _ (by omega) (by omega) (by omega)) Lb (λv hv hx=>?_) λv24 h24 hr24=>?_
 ·obtain⟨e,j,hx1,rfl,rfl⟩:=hx;(first|rw[hx1]at hq|rw[M0 hx1]at hq);exact prP Tryz.f270 hq Sb
 obtain⟨x24,j24,bl24,hM24,hj24,⟨p24,rfl,rfl,hO24⟩,rfl⟩:=hr24;refine WL.perm ((Mv.perm).cons _) ?_;rw[hM24,S1]at hq;refine xY T9 Eb λb25=>?_
 refine WL.perm (Mv.perm (bl:=[_])) ?_;refine ZZ [2,2,0] ?_;refine xT (psR z j24::(prR b25 p24::(bl24++(bl12++h)))) (h1:=cA S9) ?_;exact⟨_,_,prR b25 p24::(bl24++bl12),hq,⟨by omega,hj24.2⟩,⟨.mk kd [] A2 B0 B0 p12 none 0 [] (some ⟨b25,0,none⟩) 1 [p24] B0 C3,rfl,X9 _,a6l hk0 (Nat.zero_le _) (H5 _ _) (I4 _ _) (I4 _ _) (Rs.mono (h:=bl12) ⟨hn12,hu12,hv12⟩ ((List.sublist_append_right _ _).cons _)) (a1y _ _) ⟨Rd.ofPt rfl (by show 1<=_;decide) (List.Mem.head _),a1n (hO24.mono ((List.sublist_append_left _ _).cons _))⟩ (a0D _ _) (W2 _ _)⟩,by rw[List.cons_append,List.append_assoc]⟩;have c20:p12.name=[]:=by simpa using c20
 rw[if_neg (show ¬(stR p12).name≠[] from λq=>q c20)]at hq;refine WC.addNil 45 42 ?_;refine WC.take (r:=psR z (i+1)) De ?_;refine Z0 ?_
 refine B1 [0,2,8,9] rfl (λμ F' h'=>∃a9:Option Addr,∃c9:Nat,∃l:List Pr,∃bl:List Res,∃k:Nat,∃j:Nat,((l.length+i+1<=j/\j<=z.R.length/\z.R.length<=j+k)/\(∀x∈l,POk m bl x)/\a4Z z.R (C7 z.R n) kd d ts i=U6 (a3K z.R (C7 z.R n) (d+1) k (l.map stP) j) λl i=>.ok (prM kd [] A2 [] [] (stR p12) [] l [] C3,i))/\k=μ/\F'=[]/\psR z j::.row (.slice a9 l.length c9) 45 42 l.length (fl prE l)::prR b9 (.mk kd [] A2 B0 B0 p12 none 0 [] a9 c9 l B0 C3)::prR b8 (p0 0 [] A2 B0 B0 F2)::(bl++(bl12++h))=h') ((z.R.length-(i+1))) [] (h0:=psR z (i+1)::.row (.slice none ([]).length 0) 45 42 ([]).length (fl prE ([]))::prR b9 (.mk kd [] A2 B0 B0 p12 none 0 [] none 0 ([]) B0 C3)::prR b8 (p0 0 [] A2 B0 B0 F2)::(([])++(bl12++h))) ?_ Sb ⟨none,0,[],[],z.R.length-(i+1),i+1,⟨⟨by simp,by omega,by omega⟩,λ_ hx=>(List.not_mem_nil hx).elim,hq⟩,rfl,rfl,rfl⟩ ?_;exact Su
 rintro _ _ _ ⟨a9,c9,l,bl,k,j,⟨⟨hl,hj,hk⟩,hS,hJ⟩,rfl,rfl,rfl⟩;refine B2 rfl ?_;refine kA3 ?_;refine xf (E2 Et Et) (a7k hz j (d+1) _ Me) ?_;refine Z0 ?_;refine wc ?_ ?_<;>intro c31
 rw[c1V hk c31]at hJ;refine WC.take (r:=psR z j) De ?_;refine Z0 ?_;refine F3 [5,6] (.op 0 (.op 1 (.op 2 (.op 3 (.op 4 (.op 5 (.op 6 .nil))))))) [7,8,9] _ [_] C4 (λ_ _ _ _ _ h=>h) [] (by kernel_rfl) ?_;refine kA4 ?_;refine yG rfl (L6 Et Ek (by omega)) ?_;refine a1M rfl rfl Ef (E3 Et Et Ek) (λfr=>c7k hrec j (d+1) false _ (by omega) (by omega) (by omega)) Lb (λfr v hv hx=>?_) λv37 h37 hr37=>?_
 ·obtain⟨e,j2,hx1,rfl,rfl⟩:=hx
  rw[hx1]at hJ;exact prP Tryz.f270 hJ ((a3l Sb fr).cons_cons _)
 obtain⟨p37,j37,bl37,hM37,hj37,rfl,hO37,rfl⟩:=hr37;refine sB rfl T9 λb38=>?_;refine a2v (H:=prR b38 p37::psR z j37::.row (.slice a9 l.length c9) 45 42 l.length (fl prE l)::prR b9 (.mk kd [] A2 B0 B0 p12 none 0 [] a9 c9 l B0 C3)::prR b8 (p0 0 [] A2 B0 B0 F2)::(bl37++(bl++(bl12++h)))) rfl (((a08 bl37 [_,_,_] (bl++(bl12++h))).cons _).cons _) ?_;have hln:(l++[p37]).length=l.length+1:=List.length_append;refine xD T9 (Ev.tmp rfl) (Ev.tmp rfl) (show l.length+1=(l++[p37]).length by simp) (D4 (enc:=prE) _ (p37)) λa39 c39=>?_
 refine kA2 ?_;rw[hM37,S1]at hJ;rw[<-List.append_assoc bl37 bl];have hm2:(l++[p37]).map stP=l.map stP++[stP p37]:=by rw[List.map_append,List.map_singleton]
 refine WL.nil (A6 ((k-1)) [] (h'':=psR z j37::.row (.slice a39 (l++[p37]).length c39) 45 42 (l++[p37]).length (fl prE (l++[p37]))::prR b9 (.mk kd [] A2 B0 B0 p12 none 0 [] a39 c39 (l++[p37]) B0 C3)::prR b8 (p0 0 [] A2 B0 B0 F2)::((bl37++bl)++(bl12++h))) (by omega) ?_ Su Sb ⟨a39,c39,l++[p37],bl37++bl,k-1,j37,⟨⟨by omega,by omega,by omega⟩,a0u (λy hy=>(hS y hy).mono (List.sublist_append_right _ _)) (hO37.mono (List.sublist_append_left _ _)),hJ.trans (by rw[hm2])⟩,rfl,rfl,rfl⟩);exact Su;rw[b6o c31,S1]at hJ;refine Q7 (a:=a9) Me λp9 q9 r9=>?_
 refine ZZ [0,2,0] ?_;refine xT (psR z j::(.row (.slice a9 l.length c9) 45 42 l.length (fl prE l)::(bl++(bl12++h)))) (h1:=cA S9) ?_;exact⟨_,_,.row (.slice a9 l.length c9) 45 42 l.length (fl prE l)::(bl++bl12),hJ,⟨by omega,hj⟩,⟨.mk kd [] A2 B0 B0 p12 none 0 [] a9 c9 l B0 C3,rfl,X9 _,a6l hk0 (Nat.zero_le _) (H5 _ _) (I4 _ _) (I4 _ _) (Rs.mono (h:=bl12) ⟨hn12,hu12,hv12⟩ ((List.sublist_append_right _ _).cons _)) (a1y _ _) ⟨Rd.inRow (List.Mem.head _) r9 p9 q9,λx hx=>(hS x hx).mono ((List.sublist_append_left _ _).cons _)⟩ (a0D _ _) (W2 _ _)⟩,by rw[List.cons_append,List.append_assoc]⟩
theorem a7G{m:View}(hg:Glob m){z:Pz}(hz:Pok m z){n:Nat}(hrec:REC m z n)(kd:Int)(hk0:0<=kd/\kd<=255)(q:FuncId)(row:List Tok->E Gu)(hrow:∀(b:Nat)(a:Option Addr)(c:Nat)(ts:List Tok)(h hT:List Res),Tk2 m hT a c ts->hT.Sublist h->LnX m q [ptV b] b a c ts hT h (row ts) (OG m))(d:Int)(i b:Nat)(a:Option Addr)(c:Nat)(ts:List Tok)(h hT:List Res)(hk:Tk2 m hT a c ts)(hs:hT.Sublist h)(hi:i<z.R.length)(hf:z.R.length<=i+n+1)(hd:0<=d/\d<=32) :
 QrX m z 271 [ptV z.bp,.int .u8 kd,.int .i64 d,ptV b,.func (.func q) #[] #[]] i b a c ts h (a2p z.R (C7 z.R n) kd row d ts i) (OP m):=by
 have hR:=hz.ok.1;have hq:a2p z.R (C7 z.R n) kd row d ts i=L0 (b6i ts) i λr ts=>I0 ts i λi=>U6 (a3o z.R (C7 z.R n) row (if r.name≠[]then 1 else 0) (if r.name≠[]then 1 else 16) (d+1) i) λl i=>.ok (prM kd [] A2 [] [] r l [] [] C3,i):=rfl
 refine xB [0,1,2,3,4,10,11,12] func271 λ_=>?_;refine xW λb10=>?_
 refine ZZ [0,2] ?_;refine pD (lnR b a ts.length c) ?_;refine A1 Ef (E1 Et) (c3T hg b a c ts _ _ hk (hs.trans Sb)) Lb (λv hv hx=>?_) λv15 h15 hr15=>?_
 ·obtain⟨e,hx1,rfl,rfl⟩:=hx;rw[hx1]at hq;exact prP Tryz.f271 hq Sb
 obtain⟨x15,r15,a15,u15,bl15,hM15,⟨p15,rfl,rfl,hn15,hu15,hv15⟩,hk15,rfl⟩:=hr15;refine WL.perm ((Mv.perm).cons _) ?_;rw[hM15,L4]at hq;refine kA1 ?_;refine xW λb11=>?_
 refine ZZ [1,2] ?_;refine pP (psR z i) (lnR b a15 r15.length u15) ?_;refine A1 Ef (E2 Et Et) (N5 hz i b a15 u15 r15 _ (by omega)) Lb (λv hv hx=>?_) λv19 h19 hr19=>?_
 ·obtain⟨hx1,rfl,rfl⟩:=hx;rw[P7 hx1]at hq;exact prP Tryz.f271 hq Sb
 obtain⟨hz19,rfl⟩:=hr19;rw[P8 hz19]at hq;refine ZZ [0,1] ?_;refine xW λb12=>?_
 refine kA1 ?_;refine pD (psR z (i+1)) ?_;refine ZZ [0,3] ?_;refine xG (S2 Et Ek) ?_;refine kP0 [0,2,4,10,11,12,24] ?_;refine F4 KKh [0,2,4,10,11,12] rfl (λF' h'=>∃lo:Nat,∃hi2:Nat,(lo=(if(stR p15).name≠[]then 1 else 0)/\hi2=(if(stR p15).name≠[]then 1 else 16))/\F'=[]/\psR z (i+1)::.pt b12 (.cells [Value.int .i64 lo,Value.int .i64 hi2].toArray 190 (0,0))::prR b11 (.mk kd [] A2 B0 B0 p15 none 0 [] none 0 [] B0 C3)::prR b10 (p0 0 [] A2 B0 B0 F2)::(bl15++h)=h') ?_ ?_;refine jE ?_;refine wc ?_ ?_<;>intro c24
 have c24:(stR p15).name≠[]:=show p15.name≠[] by simpa using c24
 refine j0 ?_;refine xG (K8 (vs:=b0s) X4 rfl rfl Ev.global rfl (λj v hj=>by rw[Nat.zero_add];exact hg.sOne j v hj)) ?_;refine kA1 ?_;refine WL.nil (B4 [] (h'':=psR z (i+1)::.pt b12 (.cells [Value.int .i64 1,Value.int .i64 1].toArray 190 (0,0))::prR b11 (.mk kd [] A2 B0 B0 p15 none 0 [] none 0 [] B0 C3)::prR b10 (p0 0 [] A2 B0 B0 F2)::(bl15++h)) ?_ Su Sb ⟨1,1,⟨(if_pos c24).symm,(if_pos c24).symm⟩,rfl,rfl⟩);exact Su;have c24:¬(stR p15).name≠[]:=show ¬p15.name≠[] by simpa using c24
 refine WC.skip (B4 [] (h'':=psR z (i+1)::.pt b12 (.cells [Value.int .i64 0,Value.int .i64 16].toArray 190 (0,0))::prR b11 (.mk kd [] A2 B0 B0 p15 none 0 [] none 0 [] B0 C3)::prR b10 (p0 0 [] A2 B0 B0 F2)::(bl15++h)) ?_ Su Sb ⟨0,16,⟨(if_neg c24).symm,(if_neg c24).symm⟩,rfl,rfl⟩);exact Su;rintro _ _ ⟨lo,hi2,⟨hlo,hhi⟩,rfl,rfl⟩;refine B2 rfl ?_;rw[<-hlo,<-hhi]at hq;refine kA5 ?_;refine pD (psR z (i+1)) ?_;refine A1 Ef (E4 Et Et Et Et) (a7Z hg hz hrec q row lo hi2 _ (i+1) _ (by omega) (by omega) (by omega) hrow) Lb (λv hv hx=>?_) λv31 h31 hr31=>?_
 ·obtain⟨e,j,hx1,rfl,rfl⟩:=hx;(first|rw[hx1]at hq|rw[M0 hx1]at hq);exact prP Tryz.f271 hq Sb
 obtain⟨x31,j31,bl31,hM31,hj31,⟨q31,w31,l31,rfl,rfl,hG31⟩,rfl⟩:=hr31;refine WL.perm ((Mv.perm).cons _) ?_;rw[hM31,S1]at hq;refine ZZ [2,2,0] ?_;refine xT (psR z j31::(bl31++(bl15++h))) (h1:=cA S9) ?_;exact⟨_,_,bl31++bl15,hq,⟨by omega,hj31.2⟩,⟨.mk kd [] A2 B0 B0 p15 q31 w31 l31 none 0 [] B0 C3,rfl,X9 _,a6l hk0 (Nat.zero_le _) (H5 _ _) (I4 _ _) (I4 _ _) (Rs.mono (h:=bl15) ⟨hn15,hu15,hv15⟩ (List.sublist_append_right _ _)) (hG31.mono (List.sublist_append_left _ _)) (a4x _ _) (a0D _ _) (W2 _ _)⟩,by rw[List.append_assoc]⟩
theorem c4G{m:View}{z:Pz}(hz:Pok m z)(d:Int)(i b:Nat)(a:Option Addr)(c:Nat)(ts:List Tok)(h:List Res)(hi:i<z.R.length) :
 QrX m z 191 [ptV z.bp,.int .i64 d,ptV b] i b a c ts h (b9b 1 ts i) (OP m):=by
 have hq:b9b 1 ts i=I0 ts i λi=>.ok (prM 1 [] A2 [] [] F2 [] [] [] C3,i):=rfl
 refine xB [0,2,6] func191 λ_=>?_;refine xW λb6=>?_
 refine ZZ [0,2] ?_;refine pP (psR z i) (lnR b a ts.length c) ?_;refine A1 Ef (E3 Et Ek Et) (b2N hz 1 i b a c ts _ hi) Lb (λv hv hx=>?_) λv9 h9 hr9=>?_
 ·obtain⟨hx1,rfl,rfl⟩:=hx;rw[P7 hx1]at hq;exact prP Tryz.f191 hq Sb
 obtain⟨hz9,rfl,rfl⟩:=hr9;rw[P8 hz9]at hq;refine Z1 ?_;refine xT (psR z (i+1)::h) (h1:=cA S9) ?_;exact⟨_,_,[],hq,⟨by omega,by omega⟩,⟨p0 1 [] A2 B0 B0 F2,rfl,X9 _,b9e _ _ (by decide)⟩,rfl⟩
theorem c5p{m:View}{z:Pz}(hz:Pok m z)(d:Int)(i b:Nat)(a:Option Addr)(c:Nat)(ts:List Tok)(h:List Res)(hi:i<z.R.length) :
 QrX m z 192 [ptV z.bp,.int .i64 d,ptV b] i b a c ts h (b9b 2 ts i) (OP m):=by
 have hq:b9b 2 ts i=I0 ts i λi=>.ok (prM 2 [] A2 [] [] F2 [] [] [] C3,i):=rfl
 refine xB [0,2,6] func192 λ_=>?_;refine xW λb6=>?_
 refine ZZ [0,2] ?_;refine pP (psR z i) (lnR b a ts.length c) ?_;refine A1 Ef (E3 Et Ek Et) (b2N hz 2 i b a c ts _ hi) Lb (λv hv hx=>?_) λv9 h9 hr9=>?_
 ·obtain⟨hx1,rfl,rfl⟩:=hx;rw[P7 hx1]at hq;exact prP Tryz.f192 hq Sb
 obtain⟨hz9,rfl,rfl⟩:=hr9;rw[P8 hz9]at hq;refine Z1 ?_;refine xT (psR z (i+1)::h) (h1:=cA S9) ?_;exact⟨_,_,[],hq,⟨by omega,by omega⟩,⟨p0 2 [] A2 B0 B0 F2,rfl,X9 _,b9e _ _ (by decide)⟩,rfl⟩
theorem c4o{m:View}(hg:Glob m){z:Pz}(hz:Pok m z){n:Nat}(hrec:REC m z n)(d:Int)(i b:Nat)(a:Option Addr)(c:Nat)(ts:List Tok)(h hT:List Res)(hk:Tk2 m hT a c ts)(hs:hT.Sublist h)(hi:i<z.R.length)(hf:z.R.length<=i+n+1)(hd:0<=d/\d<=32) :
 QrX m z 193 [ptV z.bp,.int .i64 d,ptV b] i b a c ts h (a4Z z.R (C7 z.R n) 8 d ts i) (OP m):=by
 refine xB [0,1,2,6] func193 λ_=>?_;refine xW λb6=>?_
 refine ZZ [0,3] ?_;refine pP (psR z i) (lnR b a ts.length c) ?_;refine A1 Ef (E4 Et Ek Et Et) (b5V hg hz hrec 8 (by decide) d i b a c ts _ _ hk (hs.trans Sb) hi hf hd) Lb (λv hv hx=>?_) λv10 h10 hr10=>?_
 ·obtain⟨e,j,hx1,rfl,rfl⟩:=hx
  exact prP Tryz.f193 hx1 Sb
 obtain⟨x10,j10,bl10,hM10,hj10,⟨p10,rfl,rfl,hO10⟩,rfl⟩:=hr10;refine WL.perm ((Mv.perm).cons _) ?_;have hq:=hM10;refine Z1 ?_;refine xT (psR z j10::(bl10++h)) (h1:=cA S9) ?_;exact⟨_,_,bl10,hq,hj10,⟨p10,rfl,rfl,hO10⟩,rfl⟩
theorem c4M{m:View}(hg:Glob m){z:Pz}(hz:Pok m z){n:Nat}(hrec:REC m z n)(d:Int)(i b:Nat)(a:Option Addr)(c:Nat)(ts:List Tok)(h hT:List Res)(hk:Tk2 m hT a c ts)(hs:hT.Sublist h)(hi:i<z.R.length)(hf:z.R.length<=i+n+1)(hd:0<=d/\d<=32) :
 QrX m z 194 [ptV z.bp,.int .i64 d,ptV b] i b a c ts h (a4Z z.R (C7 z.R n) 9 d ts i) (OP m):=by
 refine xB [0,1,2,6] func194 λ_=>?_;refine xW λb6=>?_
 refine ZZ [0,3] ?_;refine pP (psR z i) (lnR b a ts.length c) ?_;refine A1 Ef (E4 Et Ek Et Et) (b5V hg hz hrec 9 (by decide) d i b a c ts _ _ hk (hs.trans Sb) hi hf hd) Lb (λv hv hx=>?_) λv10 h10 hr10=>?_
 ·obtain⟨e,j,hx1,rfl,rfl⟩:=hx
  exact prP Tryz.f194 hx1 Sb
 obtain⟨x10,j10,bl10,hM10,hj10,⟨p10,rfl,rfl,hO10⟩,rfl⟩:=hr10;refine WL.perm ((Mv.perm).cons _) ?_;have hq:=hM10;refine Z1 ?_;refine xT (psR z j10::(bl10++h)) (h1:=cA S9) ?_;exact⟨_,_,bl10,hq,hj10,⟨p10,rfl,rfl,hO10⟩,rfl⟩
theorem c6b{m:View}(hg:Glob m){z:Pz}(hz:Pok m z){n:Nat}(hrec:REC m z n)(d:Int)(i b:Nat)(a:Option Addr)(c:Nat)(ts:List Tok)(h hT:List Res)(hk:Tk2 m hT a c ts)(hs:hT.Sublist h)(hi:i<z.R.length)(hf:z.R.length<=i+n+1)(hd:0<=d/\d<=32) :
 QrX m z 196 [ptV z.bp,.int .i64 d,ptV b] i b a c ts h (a2p z.R (C7 z.R n) 12 a9i d ts i) (OP m):=by
 refine xB [0,1,2,6] func196 λ_=>?_;refine xW λb6=>?_
 refine ZZ [0,3] ?_;refine pP (psR z i) (lnR b a ts.length c) ?_;refine A1 Ef (Evs.cons Et (Evs.cons Ek (Evs.cons Et (Evs.cons Et (Evs.cons Ef Evs.nil))))) (a7G hg hz hrec 12 (by decide) _ a9i (λb a c ts h hT=>c1s hg b a c ts h hT) d i b a c ts _ _ hk (hs.trans Sb) hi hf hd) Lb (λv hv hx=>?_) λv10 h10 hr10=>?_
 ·obtain⟨e,j,hx1,rfl,rfl⟩:=hx
  exact prP Tryz.f196 hx1 Sb
 obtain⟨x10,j10,bl10,hM10,hj10,⟨p10,rfl,rfl,hO10⟩,rfl⟩:=hr10;refine WL.perm ((Mv.perm).cons _) ?_;have hq:=hM10;refine Z1 ?_;refine xT (psR z j10::(bl10++h)) (h1:=cA S9) ?_;exact⟨_,_,bl10,hq,hj10,⟨p10,rfl,rfl,hO10⟩,rfl⟩
theorem b7k{m:View}(hg:Glob m){z:Pz}(hz:Pok m z){n:Nat}(hrec:REC m z n)(d:Int)(i b:Nat)(a:Option Addr)(c:Nat)(ts:List Tok)(h hT:List Res)(hk:Tk2 m hT a c ts)(hs:hT.Sublist h)(hi:i<z.R.length)(hf:z.R.length<=i+n+1)(hd:0<=d/\d<=32) :
 QrX m z 197 [ptV z.bp,.int .i64 d,ptV b] i b a c ts h (a2p z.R (C7 z.R n) 14 ifM d ts i) (OP m):=by
 refine xB [0,1,2,6] func197 λ_=>?_;refine xW λb6=>?_
 refine ZZ [0,3] ?_;refine pP (psR z i) (lnR b a ts.length c) ?_;refine A1 Ef (Evs.cons Et (Evs.cons Ek (Evs.cons Et (Evs.cons Et (Evs.cons Ef Evs.nil))))) (a7G hg hz hrec 14 (by decide) _ ifM (λb a c ts h hT=>c9p hg b a c ts h hT) d i b a c ts _ _ hk (hs.trans Sb) hi hf hd) Lb (λv hv hx=>?_) λv10 h10 hr10=>?_
 ·obtain⟨e,j,hx1,rfl,rfl⟩:=hx
  exact prP Tryz.f197 hx1 Sb
 obtain⟨x10,j10,bl10,hM10,hj10,⟨p10,rfl,rfl,hO10⟩,rfl⟩:=hr10;refine WL.perm ((Mv.perm).cons _) ?_;have hq:=hM10;refine Z1 ?_;refine xT (psR z j10::(bl10++h)) (h1:=cA S9) ?_;exact⟨_,_,bl10,hq,hj10,⟨p10,rfl,rfl,hO10⟩,rfl⟩
theorem c7D{m:View}(hg:Glob m){z:Pz}(hz:Pok m z){n:Nat}(hrec:REC m z n)(d:Int)(i b:Nat)(a:Option Addr)(c:Nat)(ts:List Tok)(h hT:List Res)(hk:Tk2 m hT a c ts)(hs:hT.Sublist h)(hi:i<z.R.length)(hf:z.R.length<=i+n+1)(hd:0<=d/\d<=32) :
 QrX m z 198 [ptV z.bp,.int .i64 d,ptV b] i b a c ts h (c7z z.R (C7 z.R n) d ts i) (OP m):=by
 have hR:=hz.ok.1;have hq:c7z z.R (C7 z.R n) d ts i=L0 (P5 ts) i λe r=>I0 r i λi=>U6 (a3o z.R (C7 z.R n) b9c 0 16 (d+1) i) λl i=>.ok (prM 15 [] A2 [] [e] F2 l [] [] C3,i):=rfl
 refine xB [0,1,2,6,7] func198 λ_=>?_;refine xW λb6=>?_
 refine ZZ [0,1] ?_;refine pD (lnR b a ts.length c) ?_;refine A1 Ef (E1 Et) (Y6 hg b a c ts _ _ hk (hs.trans Sb)) Lb (λv hv hx=>?_) λv9 h9 hr9=>?_
 ·obtain⟨e,hx1,rfl,rfl⟩:=hx;rw[hx1]at hq;exact prP Tryz.f198 hq Sb
 obtain⟨x9,r9,a9,u9,bl9,hM9,⟨t9,rfl,rfl,hO9⟩,hk9,rfl⟩:=hr9;refine WL.perm ((Mv.perm).cons _) ?_;rw[hM9,L4]at hq;refine xY Q1 Eb λb10=>?_
 refine WL.perm (Mv.perm (bl:=[_])) ?_;refine kA1 ?_;refine xW λb7=>?_;refine ZZ [1,2] ?_;refine pP (psR z i) (lnR b a9 r9.length u9) ?_;refine A1 Ef (E2 Et Et) (N5 hz i b a9 u9 r9 _ (by omega)) Lb (λv hv hx=>?_) λv14 h14 hr14=>?_
 ·obtain⟨hx1,rfl,rfl⟩:=hx;rw[P7 hx1]at hq;exact prP Tryz.f198 hq Sb
 obtain⟨hz14,rfl⟩:=hr14;rw[P8 hz14]at hq;refine ZZ [0,4] ?_;refine pD (psR z (i+1)) ?_;refine A1 Ef (E4 Et Et Et Ef) (a7Z hg hz hrec _ b9c 0 16 _ (i+1) _ (by omega) (by omega) (by omega) (λb a c ts h hT=>c8m hg b a c ts h hT)) Lb (λv hv hx=>?_) λv19 h19 hr19=>?_
 ·obtain⟨e,j,hx1,rfl,rfl⟩:=hx;(first|rw[hx1]at hq|rw[M0 hx1]at hq);exact prP Tryz.f198 hq Sb
 obtain⟨x19,j19,bl19,hM19,hj19,⟨q19,w19,l19,rfl,rfl,hG19⟩,rfl⟩:=hr19;refine WL.perm ((Mv.perm).cons _) ?_;rw[hM19,S1]at hq;refine ZZ [2,2,0] ?_;refine xT (psR z j19::(exR b10 t9::(bl19++(bl9++h)))) (h1:=cA S9) ?_;exact⟨_,_,exR b10 t9::(bl19++bl9),hq,⟨by omega,hj19.2⟩,⟨.mk 15 [] A2 B0 ⟨some ⟨b10,0,none⟩,1,[t9]⟩ F2 q19 w19 l19 none 0 [] B0 C3,rfl,X9 _,a6l (by decide) (Nat.zero_le _) (H5 _ _) (I4 _ _) ((c7F b10 hO9).mono ((List.sublist_append_right _ _).cons_cons _)) (a0g _ _) (hG19.mono ((List.sublist_append_left _ _).cons _)) (a4x _ _) (a0D _ _) (W2 _ _)⟩,by rw[List.cons_append,List.append_assoc]⟩
theorem c3Z{m:View}(hg:Glob m){z:Pz}(hz:Pok m z){n:Nat}(hrec:REC m z n)(d:Int)(i b:Nat)(a:Option Addr)(c:Nat)(ts:List Tok)(h hT:List Res)(hk:Tk2 m hT a c ts)(hs:hT.Sublist h)(hi:i<z.R.length)(hf:z.R.length<=i+n+1)(hd:0<=d/\d<=32) :
 QrX m z 199 [ptV z.bp,.int .i64 d,ptV b] i b a c ts h (c2h (C7 z.R n) d ts i) (OP m):=by
 have hR:=hz.ok.1;have hq:c2h (C7 z.R n) d ts i=L0 (P5 ts) i λe r=>I0 r i λi=>U6 (C7 z.R n (d+1) false i) λx i=>.ok (prM 16 [] A2 [] [e] F2 [] [x] [] C3,i):=rfl
 refine xB [0,1,2,6,7] func199 λ_=>?_;refine xW λb6=>?_
 refine ZZ [0,1] ?_;refine pD (lnR b a ts.length c) ?_;refine A1 Ef (E1 Et) (Y6 hg b a c ts _ _ hk (hs.trans Sb)) Lb (λv hv hx=>?_) λv9 h9 hr9=>?_
 ·obtain⟨e,hx1,rfl,rfl⟩:=hx;rw[hx1]at hq;exact prP Tryz.f199 hq Sb
 obtain⟨x9,r9,a9,u9,bl9,hM9,⟨t9,rfl,rfl,hO9⟩,hk9,rfl⟩:=hr9;refine WL.perm ((Mv.perm).cons _) ?_;rw[hM9,L4]at hq;refine xY Q1 Eb λb10=>?_
 refine WL.perm (Mv.perm (bl:=[_])) ?_;refine kA1 ?_;refine xW λb7=>?_;refine ZZ [1,2] ?_;refine pP (psR z i) (lnR b a9 r9.length u9) ?_;refine A1 Ef (E2 Et Et) (N5 hz i b a9 u9 r9 _ (by omega)) Lb (λv hv hx=>?_) λv14 h14 hr14=>?_
 ·obtain⟨hx1,rfl,rfl⟩:=hx;rw[P7 hx1]at hq;exact prP Tryz.f199 hq Sb
 obtain⟨hz14,rfl⟩:=hr14;rw[P8 hz14]at hq;refine ZZ [0,3] ?_;refine pD (psR z (i+1)) ?_;refine A1 Ef (E3 Et Et Ek) (hrec (i+1) _ _ _ (by omega) (by omega) (by omega)) Lb (λv hv hx=>?_) λv18 h18 hr18=>?_
 ·obtain⟨e,j,hx1,rfl,rfl⟩:=hx;(first|rw[hx1]at hq|rw[M0 hx1]at hq);exact prP Tryz.f199 hq Sb
 obtain⟨x18,j18,bl18,hM18,hj18,⟨p18,rfl,rfl,hO18⟩,rfl⟩:=hr18;refine WL.perm ((Mv.perm).cons _) ?_;rw[hM18,S1]at hq;refine xY T9 Eb λb19=>?_
 refine WL.perm (Mv.perm (bl:=[_])) ?_;refine ZZ [2,2,0] ?_;refine xT (psR z j18::(exR b10 t9::prR b19 p18::(bl18++(bl9++h)))) (h1:=cA S9) ?_;exact⟨_,_,exR b10 t9::prR b19 p18::(bl18++bl9),hq,⟨by omega,hj18.2⟩,⟨.mk 16 [] A2 B0 ⟨some ⟨b10,0,none⟩,1,[t9]⟩ F2 none 0 [] (some ⟨b19,0,none⟩) 1 [p18] B0 C3,rfl,X9 _,a6l (by decide) (Nat.zero_le _) (H5 _ _) (I4 _ _) ((c7F b10 hO9).mono (((List.sublist_append_right _ _).cons _).cons_cons _)) (a0g _ _) (a1y _ _) ⟨Rd.ofPt rfl (by show 1<=_;decide) (List.Mem.tail _ (List.Mem.head _)),a1n (hO18.mono (((List.sublist_append_left _ _).cons _).cons _))⟩ (a0D _ _) (W2 _ _)⟩,by rw[List.cons_append,List.cons_append,List.append_assoc]⟩
end
section
open Go.Eng Go.Pc Go.Sx Go
open Go.Xp hiding B C9
open Go.Ty (Ty Vr Tok eqT tyV I7 A3 B8 O4 zeroK M8 D3)
open Go.Lx (encB encB_len lexO)
open Go.Ly (Rw P4 F9)
theorem ls2{m:View}{h:List Res}{p q:Pr}(b:Nat)(hp:POk m h p)(hq:POk m h q):Ls m (b6h b p q::h) (some ⟨b,0,none⟩) 2 [p,q]:=
 ⟨by
  have e:fl prE [p,q]=prE p++prE q:=by simp[fl]
  rw[e];exact Rd.ofPt (by rw[List.length_append,a2r,a2r];rfl) (by show 2<=_;decide) (List.Mem.head _),c5d (hp.mono (List.sublist_cons_self _ _)) (hq.mono (List.sublist_cons_self _ _))⟩
theorem c7s{m:View}(hg:Glob m){z:Pz}(hz:Pok m z){n:Nat}(hrec:REC m z n)(d:Int)(i b:Nat)(a:Option Addr)(c:Nat)(ts:List Tok)(h hT:List Res)(hk:Tk2 m hT a c ts)(hs:hT.Sublist h)(hi:i<z.R.length)(hf:z.R.length<=i+n+1)(hd:0<=d/\d<=32) :
 QrX m z 195 [ptV z.bp,.int .i64 d,ptV b] i b a c ts h (c7I z.R (C7 z.R n) d ts i) (OP m):=by
 have hR:=hz.ok.1;have hq:c7I z.R (C7 z.R n) d ts i=if isM 2 [80,65,82] ts then I0 ts.tail i λi=>U6 (C7 z.R n (d+1) false i) λx i=>U6 (C7 z.R n (d+1) false i) λy i=>.ok (prM 10 [] A2 [] [] F2 [] [x,y] [] C3,i)
  else a0l 2 [65,76,84] ts i λr=>a2p z.R (C7 z.R n) 13 a9i d r i:=rfl
 refine xB [0,1,2,6,7,10] func195 λ_=>?_;refine xW λb6=>?_
 refine ZZ [0,1] ?_;refine xf (E1 Ek) (N3 _ _ _) ?_;refine pD (lnR b a ts.length c) ?_;refine xg (E2 Et Et) (O2 b a c ts _ _ _ hk (hs.trans Sb)) ?_;rintro _ _ ⟨a10,u10,r10,rfl,he10,hk10,rfl⟩;refine Z0 ?_;refine wc ?_ ?_<;>intro c10
 replace he10:=he10.trans (if_pos c10);subst r10;rw[if_pos c10]at hq;refine kA2 ?_;refine pP (psR z i) (lnR b a10 ts.tail.length u10) ?_;refine A1 Ef (E3 Et Ek Et) (b2N hz 10 i b a10 u10 ts.tail _ hi) Lb (λv hv hx=>?_) λv13 h13 hr13=>?_
 ·obtain⟨hx1,rfl,rfl⟩:=hx;rw[P7 hx1]at hq;exact prP Tryz.f195 hq Sb
 obtain⟨hz13,rfl,rfl⟩:=hr13;rw[P8 hz13]at hq;refine xW λb7=>?_
 refine ZZ [1,3] ?_;refine pD (psR z (i+1)) ?_;refine A1 Ef (E3 Et Et Ek) (hrec (i+1) _ _ _ (by omega) (by omega) (by omega)) Lb (λv hv hx=>?_) λv17 h17 hr17=>?_
 ·obtain⟨e,j,hx1,rfl,rfl⟩:=hx;(first|rw[hx1]at hq|rw[M0 hx1]at hq);exact prP Tryz.f195 hq Sb
 obtain⟨x17,j17,bl17,hM17,hj17,⟨p17,rfl,rfl,hO17⟩,rfl⟩:=hr17;refine WL.perm ((Mv.perm).cons _) ?_;rw[hM17,S1]at hq;refine kA3 ?_;refine pD (psR z j17) ?_;refine A1 Ef (E3 Et Et Ek) (hrec j17 _ _ _ (by omega) (by omega) (by omega)) Lb (λv hv hx=>?_) λv21 h21 hr21=>?_
 ·obtain⟨e,j,hx1,rfl,rfl⟩:=hx;(first|rw[hx1]at hq|rw[M0 hx1]at hq);exact prP Tryz.f195 hq Sb
 obtain⟨x21,j21,bl21,hM21,hj21,⟨p21,rfl,rfl,hO21⟩,rfl⟩:=hr21;refine WL.perm ((Mv.perm).cons _) ?_;rw[hM21,S1]at hq;refine xY (cs:=prE p17++prE p21) T9 Eb λb22=>?_
 refine WL.perm (Mv.perm (bl:=[_])) ?_;refine ZZ [2,2,0] ?_;refine xT (psR z j21::(b6h b22 p17 p21::(bl21++(bl17++h)))) (h1:=cA S9) ?_;exact⟨_,_,b6h b22 p17 p21::(bl21++bl17),hq,⟨by omega,hj21.2⟩,⟨.mk 10 [] A2 B0 B0 F2 none 0 [] (some ⟨b22,0,none⟩) 2 [p17,p21] B0 C3,rfl,X9 _,a6l (by decide) (Nat.zero_le _) (H5 _ _) (I4 _ _) (I4 _ _) (a0g _ _) (a1y _ _) (ls2 b22 (hO17.mono (List.sublist_append_right _ _)) (hO21.mono (List.sublist_append_left _ _))) (a0D _ _) (W2 _ _)⟩,by rw[List.cons_append,List.append_assoc]⟩;replace he10:=he10.trans (if_neg (J8 c10));subst r10;rw[if_neg (J8 c10)]at hq;refine ZZ [0,1] ?_;refine xf (E1 Ek) (N3 _ _ _) ?_;refine xY B3 Eb λb27=>?_
 refine pD (lnR b a10 ts.length u10) ?_;refine A1 Ef (E2 Et Et) (Q9 b a10 u10 ts _ _ _ _ _ hk10 (hs.trans Sb) (Rd.ofPt rfl (by decide) Me)) Lb (λv hv hx=>?_) λv28 h28 hr28=>?_
 ·obtain⟨hx1,rfl,rfl⟩:=hx;rw[a3q hx1]at hq;exact prP Tryz.f195 hq Sb
 obtain⟨hi28,a28,u28,hk28,rfl⟩:=hr28;rw[a3p hi28]at hq;refine ZZ [0,3] ?_;refine pP (psR z i) (lnR b a28 ts.tail.length u28) ?_;refine A1 Ef (Evs.cons Et (Evs.cons Ek (Evs.cons Et (Evs.cons Et (Evs.cons Ef Evs.nil))))) (a7G hg hz hrec 13 (by decide) _ a9i (λb a c ts h hT=>c1s hg b a c ts h hT) d i b a28 u28 ts.tail _ _ hk28 (hs.trans Sb) hi hf hd) Lb (λv hv hx=>?_) λv32 h32 hr32=>?_
 ·obtain⟨e,j,hx1,rfl,rfl⟩:=hx;(first|rw[hx1]at hq|rw[M0 hx1]at hq);exact prP Tryz.f195 hq Sb
 obtain⟨x32,j32,bl32,hM32,hj32,⟨p32,rfl,rfl,hO32⟩,rfl⟩:=hr32;refine WL.perm ((Mv.perm).cons _) ?_;rw[hM32]at hq;refine Z1 ?_;refine xT (psR z j32::(bl32++h)) (h1:=cA S9) ?_;exact⟨_,_,bl32,hq,hj32,⟨p32,rfl,rfl,hO32⟩,rfl⟩
theorem c2I(r:List Tok):b8t r=if r.length=1/\(r.getD 0 zeroK).kind=3/\0<=(r.getD 0 zeroK).n/\(r.getD 0 zeroK).n<8 then some (r.getD 0 zeroK).n else none:=by
 cases r with
 |nil=>rfl
 |cons t r=>
  cases r with
  |nil=>
   show(if t.kind=3/\0<=t.n/\t.n<8 then some t.n else none)=_;by_cases h:t.kind=3/\0<=t.n/\t.n<8
   ·rw[if_pos h,if_pos ⟨rfl,h⟩];rfl
   ·rw[if_neg h,if_neg λq=>h q.2]
  |cons u r=>
   rw[if_neg]
   ·rfl
   ·intro q
    have:=q.1;simp only[List.length_cons]at this;omega
theorem c2V{n:Nat}(h:(!((n:Int) !=1))=true):0<n:=by simp at h;omega
theorem c0R{n:Nat}{b:Bool}(h:(!(((n:Int) !=1)||b))=true):0<n:=by simp at h;omega
theorem c3N{n:Nat}{b b2:Bool}(h:(!((((n:Int) !=1)||b)||b2))=true):0<n:=by simp at h;omega
theorem c5O{n:Nat}{k v:Int}(h:(((((n:Int) !=1)||(k !=3))||decide (v<0))||decide (v>=8))=true):¬(n=1/\k=3/\0<=v/\v<8):=by rintro⟨rfl,rfl,h1,h2⟩;rw[decide_eq_false (by omega),decide_eq_false (by omega)]at h;cases h
theorem c0M{n:Nat}{k v:Int}(h:(((((n:Int) !=1)||(k !=3))||decide (v<0))||decide (v>=8))=false):n=1/\k=3/\0<=v/\v<8:=by simp at h;omega
abbrev plX(a:Option Addr)(c:Nat)(l:List Pr)(a2:Option Addr)(c2:Nat)(ns:List Int):Pr:=.mk 11 [] A2 B0 B0 F2 none 0 [] a c l ⟨a2,c2,ns⟩ C3
theorem c0k{m:View}(hg:Glob m){z:Pz}(hz:Pok m z){n:Nat}(hrec:REC m z n)(d:Int)(i b:Nat)(a:Option Addr)(c:Nat)(ts:List Tok)(h hT:List Res)(hk:Tk2 m hT a c ts)(hs:hT.Sublist h)(hi:i<z.R.length)(hf:z.R.length<=i+n+1)(hd:0<=d/\d<=32) :
 QrX m z 200 [ptV z.bp,.int .i64 d,ptV b] i b a c ts h (a8R z.R (C7 z.R n) d ts i) (OP m):=by
 have hR:=hz.ok.1;have hq:a8R z.R (C7 z.R n) d ts i=a0l 2 [80,65,82] ts i λr=>I0 r i λi=>U6 (a0B z.R (C7 z.R n) d (z.R.length-i) [] [] i) λx i=>.ok (prM 11 [] A2 [] [] F2 [] x.2 x.1 C3,i):=rfl
 refine xB [0,1,2,6,7,8,31,75] func200 λ_=>?_;refine xW λb6=>?_
 refine ZZ [0,1] ?_;refine xf (E1 Ek) (N3 _ _ _) ?_;refine xY B3 Eb λb11=>?_;refine pD (lnR b a ts.length c) ?_;refine A1 Ef (E2 Et Et) (Q9 b a c ts _ _ _ _ _ hk (by first|exact I5 Me|exact hs.trans Sb) (Rd.ofPt rfl (by decide) Me)) Lb (λv hv hx=>?_) λv12 h12 hr12=>?_
 ·obtain⟨hx1,rfl,rfl⟩:=hx;rw[a3q hx1]at hq;exact prP Tryz.f200 hq Sb
 obtain⟨hi12,a12,u12,hk12,rfl⟩:=hr12;rw[a3p hi12]at hq;refine ZZ [0,2] ?_;refine pP (psR z i) (lnR b a12 ts.tail.length u12) ?_;refine A1 Ef (E3 Et Ek Et) (b2N hz 11 i b a12 u12 ts.tail _ hi) Lb (λv hv hx=>?_) λv15 h15 hr15=>?_
 ·obtain⟨hx1,rfl,rfl⟩:=hx;rw[P7 hx1]at hq;exact prP Tryz.f200 hq Sb
 obtain⟨hz15,rfl,rfl⟩:=hr15;rw[P8 hz15]at hq;refine xW λb7=>?_
 refine kA1 ?_;refine WL.addNil 3 1 ?_;refine WL.addNil 45 42 ?_;refine pD (psR z (i+1)) ?_;refine Z0 ?_
 refine B1 [0,1,6,7] rfl (λμ F' h'=>∃a9:Option Addr,∃c9:Nat,∃l:List Pr,∃an:Option Addr,∃cn:Nat,∃ns:List Int,∃bl:List Res,∃k:Nat,∃j:Nat,((l.length+i+1<=j/\j<=z.R.length/\z.R.length<=j+k)/\((∀x∈l,POk m bl x)/\(∀x∈ns,-9223372036854775808<=x/\x<=9223372036854775807)/\ns.length=l.length)/\a8R z.R (C7 z.R n) d ts i=U6 (a0B z.R (C7 z.R n) d k ns (l.map stP) j) λx i=>.ok (prM 11 [] A2 [] [] F2 [] x.2 x.1 C3,i))/\k=μ/\F'=[]/\psR z j::.row (.slice a9 l.length c9) 45 42 l.length (fl prE l)::.row (.slice an ns.length cn) 3 1 ns.length (fl a3G ns)::prR b7 (plX a9 c9 l an cn ns)::prR b6 (p0 0 [] A2 B0 B0 F2)::(bl++h)=h') ((z.R.length-(i+1))) [] (h0:=psR z (i+1)::.row (.slice none ([]).length 0) 45 42 ([]).length (fl prE ([]))::.row (.slice none ([]).length 0) 3 1 ([]).length (fl a3G ([]))::prR b7 (plX none 0 ([]) none 0 ([]))::prR b6 (p0 0 [] A2 B0 B0 F2)::(([])++h)) ?_ Sb ⟨none,0,[],none,0,[],[],z.R.length-(i+1),i+1,⟨⟨by simp,by omega,by omega⟩,⟨λ_ hx=>(List.not_mem_nil hx).elim,λ_ hx=>(List.not_mem_nil hx).elim,rfl⟩,hq⟩,rfl,rfl,rfl⟩ ?_
 exact Su;rintro _ _ _ ⟨a9,c9,l,an,cn,ns,bl,k,j,⟨⟨hl,hj,hk⟩,⟨hS,hN,hNl⟩,hq⟩,rfl,rfl,rfl⟩;refine B2 rfl ?_;have hlm:(l.map stP).length=l.length:=List.length_map _;refine a8L ?_;refine E8 (a0q rfl rfl) (λhc=>L6 (Eg hc) Ek (by first|omega|(simp at hc;omega))) Lb ?_;refine A4 (a0q rfl rfl) (λhc=>⟨Ef,(E2 (Eg hc) (Eg hc)),a7k hz j (d+1) _ Me⟩) Lb ?_;refine zG (λhc=>Q2 hc rfl rfl) ?_;refine Z1 ?_;refine wc ?_ ?_<;>intro c31
 change (((l.length:Int)==0)||(decide ((l.length:Int)<8)&&S4 z.R (d+1) j))=true at c31
 have hc:(l.map stP).length=0\/((l.map stP).length<8/\S4 z.R (d+1) j=true):=by simp only[Bool.or_eq_true,Bool.and_eq_true,decide_eq_true_eq,beq_iff_eq]at c31;rw[hlm];exact c31.imp (λq=>by omega) λq=>⟨by omega,q.2⟩
 rw[b9z hk hc]at hq;refine ZZ [0,3] ?_;refine pD (psR z j) ?_;refine A1 Ef (E2 Et Et) (a4L hg hz j _ _ (by omega)) Lb (λv hv hx=>?_) λv35 h35 hr35=>?_
 ·obtain⟨e,j,hx1,rfl,rfl⟩:=hx;(first|rw[hx1]at hq|rw[M0 hx1]at hq);exact prP Tryz.f200 hq Sb
 obtain⟨r35,b35,a35,u35,hM35,rfl,hk35,rfl⟩:=hr35;have ho35:=a2A hz hM35;rw[a5a hM35]at hq;refine ZZ [1,1] ?_;refine xf (E1 Ek) (N3 _ _ _) ?_;refine xY B3 Eb λb38=>?_
 refine pD (lnR b35 a35 r35.length u35) ?_;refine A1 Ef (E2 Et Et) (Q9 b35 a35 u35 r35 _ _ _ _ _ hk35 (by first|exact I5 Me|exact hs.trans Sb) (Rd.ofPt rfl (by decide) Me)) Lb (λv hv hx=>?_) λv39 h39 hr39=>?_
 ·obtain⟨hx1,rfl,rfl⟩:=hx;rw[a3q hx1]at hq;exact prP Tryz.f200 hq Sb
 obtain⟨hi39,a39,u39,hk39,rfl⟩:=hr39;rw[a3p hi39]at hq;refine Z0 ?_;obtain⟨t,ht⟩:∃t,t=r35.tail.getD 0 zeroK:=⟨_,rfl⟩;have hel0:0<r35.tail.length->r35.tail[0]?=some t:=λhq=>by rw[ht,List.getD_eq_getElem?_getD,List.getElem?_eq_getElem hq];rfl
 have hrd:=(hk39.mono (h':=tkW a35 u35 r35::[psR z j]) (I5 (List.Mem.head _))).k.rd;have hpm:=c2I r35.tail;rw[<-ht]at hpm;refine kA8 ?_;refine zG (λhc=>PO.nilCheck (Eg hc)) ?_;refine kA2 ?_;refine zG (λhc=>D8 B3.und B3.size B3.posz (Eg hc) Ek Rr rfl (q:=0) (c2V hc)) ?_;refine zG (λhc=>G6 M4 rfl (Nat.ne_of_beq_eq_false rfl) B8 (Nat.succ_pos _) Rr (hel0 (c2V hc)) (Eg hc)) ?_;refine zG (λhc=>G8 b4X rfl B8 Rr (Eg hc) (hel0 (c2V hc)) rfl) ?_;refine kA4 ?_;refine zG (λhc=>PO.nilCheck (Eg hc)) ?_;refine kA2 ?_;refine zG (λhc=>D8 B3.und B3.size B3.posz (Eg hc) Ek Rr rfl (q:=0) (c0R hc)) ?_;refine zG (λhc=>G6 M4 rfl (Nat.ne_of_beq_eq_false rfl) B8 (Nat.succ_pos _) Rr (hel0 (c0R hc)) (Eg hc)) ?_;refine zG (λhc=>G8 a1X rfl B8 Rr (Eg hc) (hel0 (c0R hc)) rfl) ?_;refine kA4 ?_;refine zG (λhc=>PO.nilCheck (Eg hc)) ?_;refine kA2 ?_
 refine zG (λhc=>D8 B3.und B3.size B3.posz (Eg hc) Ek Rr rfl (q:=0) (c3N hc)) ?_;refine zG (λhc=>G6 M4 rfl (Nat.ne_of_beq_eq_false rfl) B8 (Nat.succ_pos _) Rr (hel0 (c3N hc)) (Eg hc)) ?_;refine zG (λhc=>G8 a1X rfl B8 Rr (Eg hc) (hel0 (c3N hc)) rfl) ?_;refine Z2 ?_;refine wc ?_ ?_<;>intro c75
 rw[if_neg (c5O c75)]at hpm;rw[hpm]at hq;refine j0 ?_;refine A1 Ef Evs.nil (K9 _ _) Lb (λv hv hx=>?_) λv76 h76 hr76=>?_
 ·obtain⟨rfl,rfl⟩:=hx;exact prP Tryz.f200 hq Sb
 exact hr76.elim;have d75:=c0M c75;rw[if_pos d75]at hpm;rw[hpm]at hq;dsimp only at hq;have hel:=hel0 (by omega);have h1l:=d75.1;refine Z0 ?_;refine dS [10] (.op 0 (.op 1 (.op 2 (.op 3 (.op 4 (.op 5 (.op 6 (.op 7 (.op 8 (.op 9 (.op 10 .nil))))))))))) [11,12,13] C4 ?_;refine kA6 ?_;refine yG rfl (D8 B3.und B3.size B3.posz (Ev.tmp rfl) Ek Rr rfl (q:=0) (by omega)) ?_;refine kA2 ?_;refine yG rfl (PO.conv a1X uu3 Et) ?_;refine SR.val (v':=.int .i64 t.n) (congrArg (Value.int .i64) (Go.Ty.wrapN ⟨by omega,by omega⟩)) ?_;refine sB rfl b2W λb87=>?_
 refine SR.nil rfl rfl ?_;have hln1:(ns++[t.n]).length=ns.length+1:=List.length_append;refine xD b2W (Ev.tmp rfl) (Ev.tmp rfl) (show ns.length+1=(ns++[t.n]).length by simp) (D4 (enc:=a3G) _ (t.n)) λa88 c88=>?_;refine ZZ [2,4,2] ?_;refine pP (psR z j) (lnR b35 none 0 0) ?_;refine A1 Ef (E2 Et Et) (N5 hz j b35 none 0 [] _ (by omega)) Lb (λv hv hx=>?_) λv95 h95 hr95=>?_
 ·exact absurd rfl hx.1
 obtain⟨-,rfl⟩:=hr95;refine wn [0,1,6,7] ?_;refine jE ?_;refine WC.drop (h':=psR z (j+1)::.row (.slice a9 l.length c9) 45 42 l.length (fl prE l)::.row (.slice a88 (ns++[t.n]).length c88) 3 1 (ns++[t.n]).length (fl a3G (ns++[t.n]))::prR b7 (plX a9 c9 l a88 c88 (ns++[t.n]))::prR b6 (p0 0 [] A2 B0 B0 F2)::(bl++h)) Sb ?_;refine WC.take (r:=psR z (j+1)) De ?_;refine F3 [5,6] (.op 0 (.op 1 (.op 2 (.op 3 (.op 4 (.op 5 (.op 6 .nil))))))) [7,8,9] _ [_] C4 (λ_ _ _ _ _ h=>h) [] (by kernel_rfl) ?_;refine kA4 ?_;refine yG rfl (L6 Et Ek (by omega)) ?_;refine a1M rfl rfl Ef (E3 Et Et Ek) (λfr=>c7k hrec (j+1) (d+2) false _ (by omega) (by omega) (by omega)) Lb (λfr v hv hx=>?_) λv101 h101 hr101=>?_
 ·obtain⟨e,j2,hx1,rfl,rfl⟩:=hx
  rw[hx1]at hq;exact prP Tryz.f200 hq ((a3l Sb fr).cons_cons _)
 obtain⟨p101,j101,bl101,hM101,hj101,rfl,hO101,rfl⟩:=hr101;refine sB rfl T9 λb102=>?_;refine a2v (H:=prR b102 p101::psR z j101::.row (.slice a9 l.length c9) 45 42 l.length (fl prE l)::.row (.slice a88 (ns++[t.n]).length c88) 3 1 (ns++[t.n]).length (fl a3G (ns++[t.n]))::prR b7 (plX a9 c9 l a88 c88 (ns++[t.n]))::prR b6 (p0 0 [] A2 B0 B0 F2)::(bl101++(bl++h))) rfl (((a08 bl101 [_,_,_,_] (bl++h)).cons _).cons _) ?_;have hln:(l++[p101]).length=l.length+1:=List.length_append;refine xD T9 (Ev.tmp rfl) (Ev.tmp rfl) (show l.length+1=(l++[p101]).length by simp) (D4 (enc:=prE) _ (p101)) λa103 c103=>?_
 refine kA2 ?_;rw[hM101,S1]at hq;rw[<-List.append_assoc bl101 bl];have hm2:(l++[p101]).map stP=l.map stP++[stP p101]:=by rw[List.map_append,List.map_singleton]
 refine WL.nil (A6 ((k-1)) [] (h'':=psR z j101::.row (.slice a103 (l++[p101]).length c103) 45 42 (l++[p101]).length (fl prE (l++[p101]))::.row (.slice a88 (ns++[t.n]).length c88) 3 1 (ns++[t.n]).length (fl a3G (ns++[t.n]))::prR b7 (plX a103 c103 (l++[p101]) a88 c88 (ns++[t.n]))::prR b6 (p0 0 [] A2 B0 B0 F2)::((bl101++bl)++h)) (by omega) ?_ Su Sb ⟨a103,c103,l++[p101],a88,c88,ns++[t.n],bl101++bl,k-1,j101,⟨⟨by omega,by omega,by omega⟩,⟨a0u (λy hy=>(hS y hy).mono (List.sublist_append_right _ _)) (hO101.mono (List.sublist_append_left _ _)),a0u hN ⟨by omega,by omega⟩,by omega⟩,hq.trans (by rw[hm2])⟩,rfl,rfl,rfl⟩);exact Su;change (((l.length:Int)==0)||(decide ((l.length:Int)<8)&&S4 z.R (d+1) j))=false at c31
 have hc:¬((l.map stP).length=0\/((l.map stP).length<8/\S4 z.R (d+1) j=true)):=λq=>by
  rw[hlm]at q;have:(((l.length:Int)==0)||(decide ((l.length:Int)<8)&&S4 z.R (d+1) j))=true:=by simp only[Bool.or_eq_true,Bool.and_eq_true,decide_eq_true_eq,beq_iff_eq];exact q.imp (λq=>by omega) λq=>⟨by omega,q.2⟩
  rw[this]at c31;cases c31
 rw[b3Z hc,S1]at hq;refine Q7 (a:=a9) Me λp9 q9 r9=>?_
 refine Q7 (a:=an) Me λp8 q8 r8=>?_;refine ZZ [0,2,0] ?_;refine xT (psR z j::(.row (.slice a9 l.length c9) 45 42 l.length (fl prE l)::.row (.slice an ns.length cn) 3 1 ns.length (fl a3G ns)::(bl++h))) (h1:=cA S9) ?_;exact⟨_,_,.row (.slice a9 l.length c9) 45 42 l.length (fl prE l)::.row (.slice an ns.length cn) 3 1 ns.length (fl a3G ns)::bl,hq,⟨by omega,hj⟩,⟨plX a9 c9 l an cn ns,rfl,X9 _,a6l (by decide) (Nat.zero_le _) (H5 _ _) (I4 _ _) (I4 _ _) (a0g _ _) (a1y _ _) ⟨Rd.inRow (List.Mem.head _) r9 p9 q9,λx hx=>(hS x hx).mono (((List.Sublist.refl _).cons _).cons _)⟩ ⟨Rd.inRow (List.Mem.tail _ (List.Mem.head _)) r8 p8 q8,hN⟩ (W2 _ _)⟩,rfl⟩
end
section
open Go.Eng Go.Pc Go.Sx Go
open Go.Xp hiding B C9
open Go.Ty (Ty Vr Tok eqT tyV I7 A3 B8 O4 zeroK M8 D3)
open Go.Lx (encB encB_len lexO)
open Go.Ly (Rw P4 F9)
theorem b4l{α:Type}{take:List Tok->E α}{sep:B}:∀{n:Nat}{acc:List α}{ts:List Tok}{l:List α}{r:List Tok},1<=acc.length->a3I take sep n acc ts=.ok (l,r)->1<=l.length
 |0,acc,ts,l,r,h0,h=>by
  unfold a3I at h;split at h
  ·cases h
  ·cases h;exact h0
 |n+1,acc,ts,l,r,h0,h=>by
  unfold a3I at h;split at h
  ·cases ht:take ts.tail with
   |error e=>rw[ht]at h;cases h
   |ok x=>obtain⟨x,r2⟩:=x;rw[ht,K7]at h;exact b4l (by rw[List.length_append];omega) h
  ·cases h;exact h0
theorem c1N{α:Type}{take:List Tok->E α}{sep:B}{n:Nat}{ts:List Tok}{l:List α}{r:List Tok}(h:U0 take sep n ts=.ok (l,r)):1<=l.length:=by
 unfold U0 at h;cases ht:take ts with
 |error e=>rw[ht]at h;cases h
 |ok x=>obtain⟨x,r2⟩:=x;rw[ht,K7]at h;exact b4l (Nat.le_refl _) h
theorem b9R{m:View}(hg:Glob m){z:Pz}(hz:Pok m z){n:Nat}(hrec:REC m z n)(d:Int)(i b:Nat)(a:Option Addr)(c:Nat)(ts:List Tok)(h hT:List Res)(hk:Tk2 m hT a c ts)(hs:hT.Sublist h)(hi:i<z.R.length)(hf:z.R.length<=i+n+1)(hd:0<=d/\d<=32)(h0:0<ts.length) :
 QrX m z 106 [ptV z.bp,.int .i64 d,ptV b] i b a c ts h (a5L z.R (C7 z.R n) d ts i) (OP m):=by
 have hR:=hz.ok.1;have hq:a5L z.R (C7 z.R n) d ts i=if(ts.headD Go.Ty.zeroK).kind=1/\isM 5 [40] ts.tail=true then L0 (a0j ts) i λn r=>L0 (brM P5 r) i λl r=>I0 r i λi=>.ok (prM 17 n A2 [] l F2 [] [] [] C3,i)
  else L0 (U0 N8 [44] 8 ts) i λf r=>
  if isM 5 [58,61] r then L0 (U0 P5 [44] 8 r.tail) i λl r=>I0 r i λi=>.ok (prM 3 [] A2 f l F2 [] [] [] C3,i)
  else if f.length>1 then .error (110,i)
  else if isM 5 [33] r then L0 (U0 P5 [59] 9 r.tail) i λl r=>I0 r i λi=>.ok (prM 5 [] (f.headD A2) [] l F2 [] [] [] C3,i)
  else a0l 5 [63] r i λr=>
   if isM 2 [67,65,83,69] r then I0 r.tail i λi=>U6 (a3o z.R (C7 z.R n) b6z 1 16 (d+1) i) λl i=>.ok (prM 7 [] (f.headD A2) [] [] F2 l [] [] C3,i)
   else if isM 2 [65,70,84,69,82] r then L0 (P5 r.tail) i λe r=>I0 r i λi=>.ok (prM 6 [] (f.headD A2) [] [e] F2 [] [] [] C3,i)
   else L0 (U0 N8 [59] 8 r) i λl r=>I0 r i λi=>.ok (prM 4 [] (f.headD A2) l [] F2 [] [] [] C3,i):=rfl
 have hrd:=(hk.mono hs).k.rd;obtain⟨t,ht⟩:∃t,t=ts.getD 0 zeroK:=⟨_,rfl⟩;have hel:ts[0]?=some t:=by rw[ht,List.getD_eq_getElem?_getD,List.getElem?_eq_getElem h0];rfl
 rw[b9M,<-ht]at hq;refine xB [0,1,2,6,7,8,9,28,46,61,72,93,108] func106 λ_=>?_
 refine xW λb6=>?_;refine ZZ [0,1] ?_;refine xW λb7=>?_
 refine ZZ [1,4] ?_;refine xG (a1z B3.und B3.size Et Ek (l:=1) rfl (by omega)) ?_;refine kA1 ?_;refine xW λb8=>?_;refine ZZ [1,4] ?_;refine xG (D8 B3.und B3.size B3.posz (Ev.tmp rfl) Ek Rr rfl (q:=0) (by omega)) ?_;refine kA4 ?_;refine A4 (GU.t rfl rfl) (λhc=>⟨Ef,(E1 Ek),K0 _ _ _⟩) Lb ?_;refine A4 (GU.t rfl rfl) (λhc=>⟨Ef,(E2 Et (Eg hc)),a4i b8 (sl1 a 1 c 4) (c-1) ts.tail _ _ hT (by rw[List.length_tail];exact List.mem_cons_self ..) (hk.tail h0) (hs.trans Sb)⟩) Lb ?_;refine Z1 ?_;refine wc ?_ ?_<;>intro c28
 have d28:t.kind=1/\isM 5 [40] ts.tail=true:=by simpa using c28
 rw[if_pos d28]at hq;refine kA1 ?_;refine pD (lnR b a ts.length c) ?_;refine A1 Ef (E1 Et) (a2x b a c ts _ _ hk (hs.trans Sb)) Lb (λv hv hx=>?_) λv30 h30 hr30=>?_
 ·obtain⟨e,hx1,rfl,rfl⟩:=hx;rw[hx1]at hq;exact prP Tryz.f106 hq Sb
 obtain⟨x30,r30,a30,u30,hM30,⟨rfl,hw30⟩,hk30,rfl⟩:=hr30;rw[hM30,L4]at hq;refine ZZ [4,2] ?_;refine xG (PO.makeFunc (E1 Et) Evs.nil) ?_;refine pD (lnR b a30 r30.length u30) ?_;refine A1 Ef (E2 Et Et) (c5q 187 P5 b a30 u30 r30 _ _ hk30 (hs.trans Sb) (λa c ts h hk hs=>Y6 hg b a c ts h _ hk hs)) Lb (λv hv hx=>?_) λv36 h36 hr36=>?_
 ·obtain⟨e,hx1,rfl,rfl⟩:=hx;rw[hx1]at hq;exact prP Tryz.f106 hq Sb
 obtain⟨x36,r36,a36,u36,bl36,hM36,⟨s36,rfl,rfl,hO36⟩,hk36,rfl⟩:=hr36;refine WL.perm ((Mv.perm).cons _) ?_;rw[hM36,L4]at hq;refine ZZ [2,2] ?_;refine pP (psR z i) (lnR b a36 r36.length u36) ?_;refine A1 Ef (E2 Et Et) (N5 hz i b a36 u36 r36 _ (by omega)) Lb (λv hv hx=>?_) λv40 h40 hr40=>?_
 ·obtain⟨hx1,rfl,rfl⟩:=hx;rw[P7 hx1]at hq;exact prP Tryz.f106 hq Sb
 obtain⟨hz40,rfl⟩:=hr40;rw[P8 hz40]at hq;refine ZZ [0,2,0] ?_;refine xT (psR z (i+1)::(bl36++h)) (h1:=cA S9) ?_;exact⟨_,_,bl36,hq,⟨by omega,by omega⟩,⟨.mk 17 x30 A2 B0 s36 F2 none 0 [] none 0 [] B0 C3,rfl,X9 _,a6l (by decide) hw30 (H5 _ _) (I4 _ _) hO36 (a0g _ _) (a1y _ _) (a4x _ _) (a0D _ _) (W2 _ _)⟩,rfl⟩;have d28:¬(t.kind=1/\isM 5 [40] ts.tail=true):=λq=>by
  have:((t.kind==1)&&isM 5 [40] ts.tail)=true:=by simpa using q
  exact absurd (this.symm.trans c28) (by decide)
 rw[if_neg d28]at hq;refine ZZ [0,2] ?_;refine xG (PO.makeFunc (E1 Et) Evs.nil) ?_;refine pD (lnR b a ts.length c) ?_;refine A1 Ef (E4 Et Ek Ek Et) (a1U 190 N8 [44] 8 b a c ts _ _ hk (hs.trans Sb) (by decide) (λa c ts h hk hs=>a1w hg b a c ts h _ hk hs)) Lb (λv hv hx=>?_) λv45 h45 hr45=>?_
 ·obtain⟨e,hx1,rfl,rfl⟩:=hx;rw[hx1]at hq;exact prP Tryz.f106 hq Sb
 obtain⟨x45,r45,a45,u45,bl45,hM45,⟨s45,rfl,rfl,hO45⟩,hk45,rfl⟩:=hr45;refine WL.perm ((Mv.perm).cons _) ?_;rw[hM45,L4]at hq;refine ZZ [1,1] ?_;refine xf (E1 Ek) (K0 _ _ _) ?_;refine pD (lnR b a45 r45.length u45) ?_;refine xg (E2 Et Et) (O2 b a45 u45 r45 _ _ _ hk45 (hs.trans Sb)) ?_;rintro _ _ ⟨a49,u49,r49,rfl,he49,hk49,rfl⟩;refine Z1 ?_;refine wc ?_ ?_<;>intro c46
 replace he49:=he49.trans (if_pos c46);subst r49;rw[if_pos c46]at hq;refine kA3 ?_;refine xG (PO.makeFunc (E1 Et) Evs.nil) ?_;refine pD (lnR b a49 r45.tail.length u49) ?_;refine A1 Ef (E4 Et Ek Ek Et) (a1U 187 P5 [44] 8 b a49 u49 r45.tail _ _ hk49 (hs.trans Sb) (by decide) (λa c ts h hk hs=>Y6 hg b a c ts h _ hk hs)) Lb (λv hv hx=>?_) λv54 h54 hr54=>?_
 ·obtain⟨e,hx1,rfl,rfl⟩:=hx;rw[hx1]at hq;exact prP Tryz.f106 hq Sb
 obtain⟨x54,r54,a54,u54,bl54,hM54,⟨s54,rfl,rfl,hO54⟩,hk54,rfl⟩:=hr54;refine WL.perm ((Mv.perm).cons _) ?_;rw[hM54,L4]at hq;refine ZZ [4,2] ?_;refine pP (psR z i) (lnR b a54 r54.length u54) ?_;refine A1 Ef (E2 Et Et) (N5 hz i b a54 u54 r54 _ (by omega)) Lb (λv hv hx=>?_) λv59 h59 hr59=>?_
 ·obtain⟨hx1,rfl,rfl⟩:=hx;rw[P7 hx1]at hq;exact prP Tryz.f106 hq Sb
 obtain⟨hz59,rfl⟩:=hr59;rw[P8 hz59]at hq;refine ZZ [0,2,0] ?_;refine xT (psR z (i+1)::(bl54++(bl45++h))) (h1:=cA S9) ?_;exact⟨_,_,bl54++bl45,hq,⟨by omega,by omega⟩,⟨.mk 3 [] A2 s45 s54 F2 none 0 [] none 0 [] B0 C3,rfl,X9 _,a6l (by decide) (Nat.zero_le _) (H5 _ _) (hO45.mono (List.sublist_append_right _ _)) (hO54.mono (List.sublist_append_left _ _)) (a0g _ _) (a1y _ _) (a4x _ _) (a0D _ _) (W2 _ _)⟩,by rw[List.append_assoc]⟩;replace he49:=he49.trans (if_neg (J8 c46));subst r49;rw[if_neg (J8 c46)]at hq;refine Z4 ?_;refine wD ?_ ?_<;>intro c61
 rw[if_pos (by rw[List.length_map];omega)]at hq;refine j0 ?_;refine A1 Ef Evs.nil (K9 _ _) Lb (λv hv hx=>?_) λv65 h65 hr65=>?_
 ·obtain⟨rfl,rfl⟩:=hx;exact prP Tryz.f106 hq Sb
 exact hr65.elim;rw[if_neg (by rw[List.length_map];omega)]at hq;refine Z0 ?_;have hp45:=c1N hM45;rw[List.length_map]at hp45;have hrd45:=hO45.rd;obtain⟨e0,he0⟩:=A5 (l:=s45.l) (k:=0) (by omega);have hE0:EOk m bl45 e0:=hO45.ok e0 (List.mem_of_getElem? he0);have hf0:(s45.l.map C6).headD A2=C6 e0:=by
  cases hs45:s45.l with
  |nil=>rw[hs45]at he0;cases he0
  |cons y r=>rw[hs45]at he0;cases he0;rfl
 rw[hf0]at hq;refine kA1 ?_;refine xG (D8 Q1.und Q1.size Q1.posz (Ev.tmp rfl) Ek Rr rfl (q:=0) (by omega)) ?_;refine ZZ [3,1] ?_;refine xf (E1 Ek) (K0 _ _ _) ?_;refine pD (lnR b a49 r45.length u49) ?_;refine xg (E2 Et Et) (O2 b a49 u49 r45 _ _ _ hk49 (hs.trans Sb)) ?_;rintro _ _ ⟨a72,u72,r72,rfl,he72,hk72,rfl⟩;refine Z0 ?_;refine wc ?_ ?_<;>intro c72
 replace he72:=he72.trans (if_pos c72);subst r72;rw[if_pos c72]at hq;refine kA2 ?_;refine xG (PO.makeFunc (E1 Et) Evs.nil) ?_;refine pD (lnR b a72 r45.tail.length u72) ?_;refine A1 Ef (E4 Et Ek Ek Et) (a1U 187 P5 [59] 9 b a72 u72 r45.tail _ _ hk72 (hs.trans Sb) (by decide) (λa c ts h hk hs=>Y6 hg b a c ts h _ hk hs)) Lb (λv hv hx=>?_) λv76 h76 hr76=>?_
 ·obtain⟨e,hx1,rfl,rfl⟩:=hx;rw[hx1]at hq;exact prP Tryz.f106 hq Sb
 obtain⟨x76,r76,a76,u76,bl76,hM76,⟨s76,rfl,rfl,hO76⟩,hk76,rfl⟩:=hr76;refine WL.perm ((Mv.perm).cons _) ?_;rw[hM76,L4]at hq;refine ZZ [4,2] ?_;refine pP (psR z i) (lnR b a76 r76.length u76) ?_;refine A1 Ef (E2 Et Et) (N5 hz i b a76 u76 r76 _ (by omega)) Lb (λv hv hx=>?_) λv81 h81 hr81=>?_
 ·obtain⟨hx1,rfl,rfl⟩:=hx;rw[P7 hx1]at hq;exact prP Tryz.f106 hq Sb
 obtain⟨hz81,rfl⟩:=hr81;rw[P8 hz81]at hq;refine ZZ [0,2,0] ?_;refine xT (psR z (i+1)::(bl76++(bl45++h))) (h1:=cA S9) ?_;exact⟨_,_,bl76++bl45,hq,⟨by omega,by omega⟩,⟨.mk 5 [] e0 B0 s76 F2 none 0 [] none 0 [] B0 C3,rfl,X9 _,a6l (by decide) (Nat.zero_le _) (hE0.mono (List.sublist_append_right _ _)) (I4 _ _) (hO76.mono (List.sublist_append_left _ _)) (a0g _ _) (a1y _ _) (a4x _ _) (a0D _ _) (W2 _ _)⟩,by rw[List.append_assoc]⟩;replace he72:=he72.trans (if_neg (J8 c72));subst r72;rw[if_neg (J8 c72)]at hq;refine ZZ [0,1] ?_;refine xf (E1 Ek) (K0 _ _ _) ?_;refine xY B3 Eb λb85=>?_
 refine pD (lnR b a72 r45.length u72) ?_;refine A1 Ef (E2 Et Et) (Q9 b a72 u72 r45 _ _ _ _ _ hk72 (hs.trans Sb) (Rd.ofPt rfl (by decide) Me)) Lb (λv hv hx=>?_) λv86 h86 hr86=>?_
 ·obtain⟨hx1,rfl,rfl⟩:=hx;rw[a3q hx1]at hq;exact prP Tryz.f106 hq Sb
 obtain⟨hi86,a86,u86,hk86,rfl⟩:=hr86;rw[a3p hi86]at hq;refine ZZ [0,1] ?_;refine xf (E1 Ek) (N3 _ _ _) ?_;refine pD (lnR b a86 r45.tail.length u86) ?_;refine xg (E2 Et Et) (O2 b a86 u86 r45.tail _ _ _ hk86 (hs.trans Sb)) ?_;rintro _ _ ⟨a96,u96,r96,rfl,he96,hk96,rfl⟩;refine Z1 ?_;refine wc ?_ ?_<;>intro c93
 replace he96:=he96.trans (if_pos c93);subst r96;rw[if_pos c93]at hq;refine ZZ [2,2] ?_;refine pP (psR z i) (lnR b a96 r45.tail.tail.length u96) ?_;refine A1 Ef (E2 Et Et) (N5 hz i b a96 u96 r45.tail.tail _ (by omega)) Lb (λv hv hx=>?_) λv100 h100 hr100=>?_
 ·obtain⟨hx1,rfl,rfl⟩:=hx;rw[P7 hx1]at hq;exact prP Tryz.f106 hq Sb
 obtain⟨hz100,rfl⟩:=hr100;rw[P8 hz100]at hq;refine ZZ [0,4] ?_;refine pD (psR z (i+1)) ?_;refine A1 Ef (E4 Et Et Et Ef) (a7Z hg hz hrec _ b6z 1 16 _ (i+1) _ (by omega) (by omega) (by omega) (λb a c ts h hT=>c8B hg b a c ts h hT)) Lb (λv hv hx=>?_) λv105 h105 hr105=>?_
 ·obtain⟨e,j,hx1,rfl,rfl⟩:=hx;(first|rw[hx1]at hq|rw[M0 hx1]at hq);exact prP Tryz.f106 hq Sb
 obtain⟨x105,j105,bl105,hM105,hj105,⟨q105,w105,l105,rfl,rfl,hG105⟩,rfl⟩:=hr105;refine WL.perm ((Mv.perm).cons _) ?_;rw[hM105,S1]at hq;refine ZZ [2,2,0] ?_;refine xT (psR z j105::(bl105++(bl45++h))) (h1:=cA S9) ?_;exact⟨_,_,bl105++bl45,hq,⟨by omega,hj105.2⟩,⟨.mk 7 [] e0 B0 B0 F2 q105 w105 l105 none 0 [] B0 C3,rfl,X9 _,a6l (by decide) (Nat.zero_le _) (hE0.mono (List.sublist_append_right _ _)) (I4 _ _) (I4 _ _) (a0g _ _) (hG105.mono (List.sublist_append_left _ _)) (a4x _ _) (a0D _ _) (W2 _ _)⟩,by rw[List.append_assoc]⟩;replace he96:=he96.trans (if_neg (J8 c93));subst r96;rw[if_neg (J8 c93)]at hq;refine kA1 ?_;refine xf (E1 Ek) (N3 _ _ _) ?_;refine pD (lnR b a96 r45.tail.length u96) ?_;refine xg (E2 Et Et) (O2 b a96 u96 r45.tail _ _ _ hk96 (hs.trans Sb)) ?_;rintro _ _ ⟨a111,u111,r111,rfl,he111,hk111,rfl⟩;refine Z1 ?_;refine wc ?_ ?_<;>intro c108
 replace he111:=he111.trans (if_pos c108);subst r111;rw[if_pos c108]at hq;refine kA1 ?_;refine pD (lnR b a111 r45.tail.tail.length u111) ?_;refine A1 Ef (E1 Et) (Y6 hg b a111 u111 r45.tail.tail _ _ hk111 (hs.trans Sb)) Lb (λv hv hx=>?_) λv113 h113 hr113=>?_
 ·obtain⟨e,hx1,rfl,rfl⟩:=hx;rw[hx1]at hq;exact prP Tryz.f106 hq Sb
 obtain⟨x113,r113,a113,u113,bl113,hM113,⟨t113,rfl,rfl,hO113⟩,hk113,rfl⟩:=hr113;refine WL.perm ((Mv.perm).cons _) ?_;rw[hM113,L4]at hq;refine xY Q1 Eb λb114=>?_
 refine WL.perm (Mv.perm (bl:=[_])) ?_;refine ZZ [4,2] ?_;refine pP (psR z i) (lnR b a113 r113.length u113) ?_;refine A1 Ef (E2 Et Et) (N5 hz i b a113 u113 r113 _ (by omega)) Lb (λv hv hx=>?_) λv119 h119 hr119=>?_
 ·obtain⟨hx1,rfl,rfl⟩:=hx;rw[P7 hx1]at hq;exact prP Tryz.f106 hq Sb
 obtain⟨hz119,rfl⟩:=hr119;rw[P8 hz119]at hq;refine ZZ [0,2,0] ?_;refine xT (psR z (i+1)::(exR b114 t113::(bl113++(bl45++h)))) (h1:=cA S9) ?_;exact⟨_,_,exR b114 t113::(bl113++bl45),hq,⟨by omega,by omega⟩,⟨.mk 6 [] e0 B0 ⟨some ⟨b114,0,none⟩,1,[t113]⟩ F2 none 0 [] none 0 [] B0 C3,rfl,X9 _,a6l (by decide) (Nat.zero_le _) (hE0.mono ((List.sublist_append_right _ _).cons _)) (I4 _ _) ((c7F b114 hO113).mono ((List.sublist_append_left _ _).cons_cons _)) (a0g _ _) (a1y _ _) (a4x _ _) (a0D _ _) (W2 _ _)⟩,by rw[List.cons_append,List.append_assoc]⟩;replace he111:=he111.trans (if_neg (J8 c108));subst r111;rw[if_neg (J8 c108)]at hq;refine kA2 ?_;refine xG (PO.makeFunc (E1 Et) Evs.nil) ?_;refine pD (lnR b a111 r45.tail.length u111) ?_
 refine A1 Ef (E4 Et Ek Ek Et) (a1U 190 N8 [59] 8 b a111 u111 r45.tail _ _ hk111 (hs.trans Sb) (by decide) (λa c ts h hk hs=>a1w hg b a c ts h _ hk hs)) Lb (λv hv hx=>?_) λv90 h90 hr90=>?_
 ·obtain⟨e,hx1,rfl,rfl⟩:=hx;rw[hx1]at hq;exact prP Tryz.f106 hq Sb
 obtain⟨x90,r90,a90,u90,bl90,hM90,⟨s90,rfl,rfl,hO90⟩,hk90,rfl⟩:=hr90;refine WL.perm ((Mv.perm).cons _) ?_;rw[hM90,L4]at hq;refine ZZ [4,2] ?_;refine pP (psR z i) (lnR b a90 r90.length u90) ?_;refine A1 Ef (E2 Et Et) (N5 hz i b a90 u90 r90 _ (by omega)) Lb (λv hv hx=>?_) λv119 h119 hr119=>?_
 ·obtain⟨hx1,rfl,rfl⟩:=hx;rw[P7 hx1]at hq;exact prP Tryz.f106 hq Sb
 obtain⟨hz119,rfl⟩:=hr119;rw[P8 hz119]at hq;refine ZZ [0,2,0] ?_;refine xT (psR z (i+1)::(bl90++(bl45++h))) (h1:=cA S9) ?_;exact⟨_,_,bl90++bl45,hq,⟨by omega,by omega⟩,⟨.mk 4 [] e0 s90 B0 F2 none 0 [] none 0 [] B0 C3,rfl,X9 _,a6l (by decide) (Nat.zero_le _) (hE0.mono (List.sublist_append_right _ _)) (hO90.mono (List.sublist_append_left _ _)) (I4 _ _) (a0g _ _) (a1y _ _) (a4x _ _) (a0D _ _) (W2 _ _)⟩,by rw[List.append_assoc]⟩
end
section
open Go.Eng Go.Pc Go.Sx Go
open Go.Xp hiding B C9
open Go.Ty (Ty Vr Tok eqT tyV I7 A3 B8 O4 zeroK M8 D3 encV D2 prL prV PrOk VOk mayPr)
open Go.Lx (encB encB_len lexO)
open Go.Ly (Rw P4 F9)
abbrev OPr(m:View)(x:Bool×List Vr)(v:Value)(bl:List Res):Prop:=∃cs a c l,x=(cs,l.map a0x)/\v=prV cs a l.length c/\PrOk m bl a l.length c l/\∀y∈l,y.items.length=y.n
abbrev pxR(b:Nat)(a:Option Addr)(k c:Nat):Res:=.pt b (.cells (prL true a k c).toArray 40 (0,0))
abbrev vxR(b:Nat)(v:Vr):Res:=.pt b (.cells (encV v).toArray 141 (0,0))
theorem c1B{m:View}(hg:Glob m){z:Pz}(hz:Pok m z)(d:Int)(i b:Nat)(a:Option Addr)(c:Nat)(ts:List Tok)(h hT:List Res)(hk:Tk2 m hT a c ts)(hs:hT.Sublist h)(hi:i<z.R.length)(hd:0<=d/\d<=32) :
 QrX m z 180 [ptV z.bp,.int .i64 d,ptV b] i b a c ts h (a84 z.R d ts i) (OPr m):=by
 have hR:=hz.ok.1;have hq:a84 z.R d ts i=if isM 2 [73,83] ts then L0 (U0 a6Z [59] 8 ts.tail) i λl r=>a0l 5 [58] r i λr=>I0 r i λi=>.ok ((false,[vrM [] l]),i)
  else I0 ts i λi=>a3P z.R (d+1) 2 [67,65,83,69] i λi=>U6 (a2g z.R d (z.R.length-i) [] i) λl i=>a3P z.R d 5 [58] i λi=>.ok ((true,l),i):=rfl
 refine xB [0,1,2,6,7,8,9,10,13,48,72] func180 λ_=>?_;refine xW λb6=>?_
 refine ZZ [0,1] ?_;refine xf (E1 Ek) (N3 _ _ _) ?_;refine pD (lnR b a ts.length c) ?_;refine xg (E2 Et Et) (O2 b a c ts _ _ _ hk (by first|exact I5 Me|exact hs.trans Sb)) ?_;rintro _ _ ⟨a13,u13,r13,rfl,he13,hk13,rfl⟩;refine Z0 ?_;refine wc ?_ ?_<;>intro c13
 replace he13:=he13.trans (if_pos c13);subst r13;rw[if_pos c13]at hq;refine kA2 ?_;refine xG (PO.makeFunc (E1 Et) Evs.nil) ?_;refine pD (lnR b a13 ts.tail.length u13) ?_;refine A1 Ef (E4 Et Ek Ek Et) (b4u 265 a6Z [59] 8 b a13 u13 ts.tail _ _ hk13 (by first|exact I5 Me|exact hs.trans Sb) (by decide) (λa c ts h hk hs=>b8E hg b a c ts h _ hk hs)) Lb (λv hv hx=>?_) λv17 h17 hr17=>?_
 ·obtain⟨e,hx1,rfl,rfl⟩:=hx;rw[hx1]at hq;exact prP Tryz.f180 hq Sb
 obtain⟨x17,r17,a17,u17,bl17,hM17,⟨p17,q17,rfl,hS17,hO17⟩,hk17,rfl⟩:=hr17;refine WL.perm ((Mv.perm).cons _) ?_;rw[hM17,L4]at hq;refine kA1 ?_;refine xY a0m Eb λb19=>?_
 refine WL.perm (Mv.perm (bl:=[_])) ?_;refine kA1 ?_;refine xW λb7=>?_;refine ZZ [1,1] ?_;refine xf (E1 Ek) (K0 _ _ _) ?_;refine xY B3 Eb λb23=>?_
 refine pD (lnR b a17 r17.length u17) ?_;refine A1 Ef (E2 Et Et) (Q9 b a17 u17 r17 _ _ _ _ _ hk17 (by first|exact I5 Me|exact hs.trans Sb) (Rd.ofPt rfl (by decide) Me)) Lb (λv hv hx=>?_) λv24 h24 hr24=>?_
 ·obtain⟨hx1,rfl,rfl⟩:=hx;rw[a3q hx1]at hq;exact prP Tryz.f180 hq Sb
 obtain⟨hi24,a24,u24,hk24,rfl⟩:=hr24;rw[a3p hi24]at hq;refine ZZ [0,2] ?_;refine pP (psR z i) (lnR b a24 r17.tail.length u24) ?_;refine A1 Ef (E2 Et Et) (N5 hz i b a24 u24 r17.tail _ (by omega)) Lb (λv hv hx=>?_) λv27 h27 hr27=>?_
 ·obtain⟨hx1,rfl,rfl⟩:=hx;rw[P7 hx1]at hq;exact prP Tryz.f180 hq Sb
 obtain⟨hz27,rfl⟩:=hr27;rw[P8 hz27]at hq;refine ZZ [0,2,0] ?_;refine xT (psR z (i+1)::(vxR b19 ⟨[],p17,x17.length,q17,x17⟩::(bl17++h))) (h1:=cA b9P) ?_;exact⟨_,_,vxR b19 ⟨[],p17,x17.length,q17,x17⟩::bl17,hq,⟨by omega,by omega⟩,⟨false,some ⟨b19,0,none⟩,1,[⟨[],p17,x17.length,q17,x17⟩],rfl,rfl,⟨Rd.ofPt rfl (by show 1<=_;decide) (List.Mem.head _),a1n ⟨hS17.mono Vl (List.sublist_cons_self _ _)⟩,a1n (Nat.zero_le _)⟩,a1n rfl⟩,rfl⟩;replace he13:=he13.trans (if_neg (J8 c13));subst r13;rw[if_neg (J8 c13)]at hq;refine ZZ [0,2] ?_;refine pP (psR z i) (lnR b a13 ts.length u13) ?_;refine A1 Ef (E2 Et Et) (N5 hz i b a13 u13 ts _ (by omega)) Lb (λv hv hx=>?_) λv31 h31 hr31=>?_
 ·obtain⟨hx1,rfl,rfl⟩:=hx;rw[P7 hx1]at hq;exact prP Tryz.f180 hq Sb
 obtain⟨hz31,rfl⟩:=hr31;rw[P8 hz31]at hq;refine ZZ [0,3] ?_;refine xf (E1 Ek) (N3 _ _ _) ?_;refine xY B3 Eb λb36=>?_
 refine pD (psR z (i+1)) ?_;refine A1 Ef (E3 Et Et Et) (b3G hg hz (i+1) _ _ _ _ _ (by omega) (Rd.ofPt rfl (by decide) Me)) Lb (λv hv hx=>?_) λv37 h37 hr37=>?_
 ·obtain⟨e,hx1,rfl,rfl⟩:=hx;rw[hx1]at hq;exact prP Tryz.f180 hq Sb
 obtain⟨ho37,hz37,rfl⟩:=hr37;rw[hz37]at hq;refine ZZ [0,1] ?_;refine xW λb8=>?_
 refine kA1 ?_;refine WL.addNil 141 2 ?_;refine pD (psR z (i+1+1)) ?_;refine Z0 ?_
 refine B1 [0,1,6,8] rfl (λμ F' h'=>∃a9:Option Addr,∃c9:Nat,∃l:List Vr,∃bl:List Res,∃k:Nat,∃j:Nat,((l.length+i+2<=j/\j<=z.R.length/\z.R.length<=j+k)/\(∀y∈l,VOk m bl y/\y.tag.length<=Big/\y.items.length=y.n)/\a84 z.R d ts i=U6 (a2g z.R d k (l.map a0x) j) λl i=>a3P z.R d 5 [58] i λi=>.ok ((true,l),i))/\k=μ/\F'=[]/\psR z j::.row (.slice a9 l.length c9) 141 2 l.length (fl encV l)::pxR b8 a9 l.length c9::.pt b6 (.cells (prL false none 0 0).toArray 40 (0,0))::(bl++h)=h') ((z.R.length-(i+1+1))) [] (h0:=psR z (i+1+1)::.row (.slice none ([]).length 0) 141 2 ([]).length (fl encV ([]))::pxR b8 none ([]).length 0::.pt b6 (.cells (prL false none 0 0).toArray 40 (0,0))::(([])++h)) ?_ Sb ⟨none,0,[],[],z.R.length-(i+1+1),i+1+1,⟨⟨by simp,by omega,by omega⟩,λ_ hx=>(List.not_mem_nil hx).elim,hq⟩,rfl,rfl,rfl⟩ ?_;exact Su;rintro _ _ _ ⟨a9,c9,l,bl,k,j,⟨⟨hl,hj,hk⟩,hV,hq⟩,rfl,rfl,rfl⟩
 refine B2 rfl ?_;have hlm:(l.map a0x).length=l.length:=List.length_map _;refine kA7 ?_;refine E8 (GU.f rfl rfl) (λhc=>L6 (Eg hc) Ek (by first|omega|(simp at hc;omega))) Lb ?_;refine A4 (GU.f rfl rfl) (λhc=>⟨Ef,(E2 (Eg hc) (Eg hc)),a7k hz j (d+2) _ Me⟩) Lb ?_;refine Z1 ?_;refine wc ?_ ?_<;>intro c48
 have hc:(l.map a0x).length=0\/S4 z.R (d+2) j=true:=by simp only[Bool.or_eq_true,beq_iff_eq]at c48;rw[hlm];exact c48.imp (λq=>by omega) id
 rw[c2z hk hc]at hq;refine ZZ [0,3] ?_;refine pD (psR z j) ?_;refine A1 Ef (E2 Et Et) (a4L hg hz j _ _ (by omega)) Lb (λv hv hx=>?_) λv52 h52 hr52=>?_
 ·obtain⟨e,j,hx1,rfl,rfl⟩:=hx;(first|rw[hx1]at hq|rw[M0 hx1]at hq);exact prP Tryz.f180 hq Sb
 obtain⟨r52,b52,a52,u52,hM52,rfl,hk52,rfl⟩:=hr52;have ho52:=a2A hz hM52;rw[a5a hM52]at hq;refine Z1 ?_;have hv:a2S r52=S3 (a0j r52) λn r=>if isM 5 [59] r then S3 (U0 a6Z [59] 8 r.tail) λl r=>.ok (vrM n l,r)else .ok (vrM n [],r):=rfl
 refine kA1 ?_;refine pD (lnR b52 a52 r52.length u52) ?_;refine A1 Ef (E1 Et) (a2x b52 a52 u52 r52 _ _ hk52 (by first|exact I5 Me|exact hs.trans Sb)) Lb (λv hv hx=>?_) λv54 h54 hr54=>?_
 ·obtain⟨e,hx1,rfl,rfl⟩:=hx
  rw[hx1]at hv;rw[show a2S r52=.error e from hv]at hq;exact prP Tryz.f180 hq Sb
 obtain⟨x54,r54,a54,u54,hM54,⟨rfl,hw54⟩,hk54,rfl⟩:=hr54;rw[hM54,K7]at hv;refine kA1 ?_;refine xW λb10=>?_
 refine ZZ [1,1] ?_;refine xf (E1 Ek) (K0 _ _ _) ?_;refine pD (lnR b52 a54 r54.length u54) ?_;refine xg (E2 Et Et) (O2 b52 a54 u54 r54 _ _ _ hk54 (by first|exact I5 Me|exact hs.trans Sb)) ?_;rintro _ _ ⟨a58,u58,r58,rfl,he58,hk58,rfl⟩;refine kP0 [0,1,6,8,9,10,58] ?_;refine F4 KKh [0,1,6,8,9,10] rfl (λF' h'=>∃w:Vr,∃bl2:List Res,∃x:Option Addr,∃y:Nat,∃r:List Tok,((VOk m bl2 w/\w.tag.length<=Big/\w.items.length=w.n)/\Tk2 m [tkW a52 u52 r52] x y r/\a2S r52=.ok (a0x w,r))/\F'=[]/\lnR b52 x r.length y::vxR b10 w::tkW a52 u52 r52::psR z j::.row (.slice a9 l.length c9) 141 2 l.length (fl encV l)::pxR b8 a9 l.length c9::.pt b6 (.cells (prL false none 0 0).toArray 40 (0,0))::(bl2++(bl++h))=h') ?_ ?_;refine jE ?_;refine wc ?_ ?_<;>intro c58
 replace he58:=he58.trans (if_pos c58);subst r58;rw[if_pos c58]at hv;refine kA2 ?_;refine xG (PO.makeFunc (E1 Et) Evs.nil) ?_;refine pD (lnR b52 a58 r54.tail.length u58) ?_;refine A1 Ef (E4 Et Ek Ek Et) (b4u 265 a6Z [59] 8 b52 a58 u58 r54.tail _ _ hk58 (by first|exact I5 Me|exact hs.trans Sb) (by decide) (λa c ts h hk hs=>b8E hg b52 a c ts h _ hk hs)) Lb (λv hv hx=>?_) λv62 h62 hr62=>?_
 ·obtain⟨e,hx1,rfl,rfl⟩:=hx
  rw[hx1]at hv;rw[show a2S r52=.error e from hv]at hq;exact prP Tryz.f180 hq Sb
 obtain⟨x62,r62,a62,u62,bl62,hM62,⟨p62,q62,rfl,hS62,hO62⟩,hk62,rfl⟩:=hr62;refine WL.perm ((Mv.perm).cons _) ?_;rw[hM62,K7]at hv;refine kA2 ?_;refine WL.nil (B4 [] (h'':=lnR b52 a62 r62.length u62::vxR b10 (⟨x54,p62,x62.length,q62,x62⟩)::tkW a52 u52 r52::psR z j::.row (.slice a9 l.length c9) 141 2 l.length (fl encV l)::pxR b8 a9 l.length c9::.pt b6 (.cells (prL false none 0 0).toArray 40 (0,0))::(bl62++(bl++h))) ?_ Su Sb ⟨⟨x54,p62,x62.length,q62,x62⟩,bl62,a62,u62,r62,⟨⟨⟨hS62⟩,hw54,rfl⟩,hk62,hv⟩,rfl,rfl⟩);exact Su;replace he58:=he58.trans (if_neg (J8 c58));subst r58;rw[if_neg (J8 c58)]at hv
 refine WC.skip (B4 [] (h'':=lnR b52 a58 r54.length u58::vxR b10 (⟨x54,none,0,0,[]⟩)::tkW a52 u52 r52::psR z j::.row (.slice a9 l.length c9) 141 2 l.length (fl encV l)::pxR b8 a9 l.length c9::.pt b6 (.cells (prL false none 0 0).toArray 40 (0,0))::(([])++(bl++h))) ?_ Su Sb ⟨⟨x54,none,0,0,[]⟩,[],a58,u58,r54,⟨⟨⟨Rd.nilF M8 1 m _⟩,hw54,rfl⟩,hk58,hv⟩,rfl,rfl⟩);exact Su;rintro _ _ ⟨w,bl2,x,y,r,⟨hw,hk1,hv⟩,rfl,rfl⟩;refine B2 rfl ?_;rw[hv,L4]at hq;refine kA3 ?_;refine xY a0m Eb λb67=>?_
 have hln:(l++[w]).length=l.length+1:=List.length_append;refine xD a0m (Ev.tmp rfl) (Ev.tmp rfl) (show l.length+1=(l++[w]).length by simp) (D4 (enc:=encV) _ (w)) λa68 c68=>?_;refine kA2 ?_;rw[<-List.append_assoc bl2 bl h];have hV2:∀y∈l++[w],VOk m (bl2++bl) y/\y.tag.length<=Big/\y.items.length=y.n:=a0u (λy hy=>⟨(hV y hy).1.mono Vl (List.sublist_append_right _ _),(hV y hy).2⟩) ⟨hw.1.mono Vl (List.sublist_append_left _ _),hw.2⟩;refine kR a68 λp68 q68 r68=>?_
 refine ZZ [0,1] ?_;refine xf (E1 Et) (Ty9.mayProto_ct true a68 _ c68 (l++[w]) _ _ hg ⟨Rd.inRow Me r68 p68 q68,λy hy=>(hV2 y hy).1.mono Vl ((List.sublist_append_left _ _).trans Sb),λy hy=>Nat.le_trans (hV2 y hy).2.1 (by decide)⟩) ?_;refine Z1 ?_;refine wc ?_ ?_<;>intro c72
 have d72:mayPr true (l.map a0x++[a0x w])=false:=by have:=a9w true (l++[w]);rw[List.map_append,List.map_singleton]at this;rw[this];simpa using c72
 rw[if_neg (J8 d72)]at hq;refine j0 ?_;refine A1 Ef Evs.nil (K9 _ _) Lb (λv hv hx=>?_) λv73 h73 hr73=>?_
 ·obtain⟨rfl,rfl⟩:=hx;exact prP Tryz.f180 hq Sb
 exact hr73.elim;have d72:mayPr true (l.map a0x++[a0x w])=true:=by have:=a9w true (l++[w]);rw[List.map_append,List.map_singleton]at this;rw[this];simpa using c72
 rw[if_pos d72]at hq;refine ZZ [0,2] ?_;refine pP (psR z j) (lnR b52 x r.length y) ?_;refine A1 Ef (E2 Et Et) (N5 hz j b52 x y r _ (by omega)) Lb (λv hv hx=>?_) λv76 h76 hr76=>?_
 ·obtain⟨hx1,rfl,rfl⟩:=hx;rw[P7 hx1]at hq;exact prP Tryz.f180 hq Sb
 obtain⟨hz76,rfl⟩:=hr76;rw[P8 hz76]at hq;refine WL.nil (A6 ((k-1)) [] (h'':=psR z ((j+1))::.row (.slice a68 (l++[w]).length c68) 141 2 (l++[w]).length (fl encV (l++[w]))::pxR b8 a68 (l++[w]).length c68::.pt b6 (.cells (prL false none 0 0).toArray 40 (0,0))::((bl2++bl)++h)) (by omega) ?_ Su Sb ⟨a68,c68,l++[w],bl2++bl,k-1,(j+1),⟨⟨by omega,by omega,by omega⟩,hV2,hq.trans (by rw[List.map_append,List.map_singleton])⟩,rfl,rfl,rfl⟩);exact Su;have hc:¬((l.map a0x).length=0\/S4 z.R (d+2) j=true):=λq=>by
  rw[hlm]at q;have:(((l.length:Int)==0)||S4 z.R (d+2) j)=true:=by simp only[Bool.or_eq_true,beq_iff_eq];exact q.imp (λq=>by omega) id
  rw[this]at c48;cases c48
 rw[b7h hc,S1]at hq;refine Q7 (a:=a9) Me λp9 q9 r9=>?_
 refine ZZ [0,2] ?_;refine xf (E1 Ek) (K0 _ _ _) ?_;refine xY B3 Eb λb80=>?_;refine pD (psR z j) ?_;refine A1 Ef (E3 Et Et Et) (b3G hg hz j _ _ _ _ _ (by omega) (Rd.ofPt rfl (by decide) Me)) Lb (λv hv hx=>?_) λv81 h81 hr81=>?_
 ·obtain⟨e,hx1,rfl,rfl⟩:=hx;rw[hx1]at hq;exact prP Tryz.f180 hq Sb
 obtain⟨ho81,hz81,rfl⟩:=hr81;rw[hz81]at hq;refine ZZ [0,2,0] ?_;refine xT (psR z (j+1)::(.row (.slice a9 l.length c9) 141 2 l.length (fl encV l)::(bl++h))) (h1:=cA b9P) ?_;exact⟨_,_,.row (.slice a9 l.length c9) 141 2 l.length (fl encV l)::bl,hq,⟨by omega,by omega⟩,⟨true,a9,c9,l,rfl,rfl,⟨Rd.inRow (List.Mem.head _) r9 p9 q9,λy hy=>(hV y hy).1.mono Vl (List.sublist_cons_self _ _),λy hy=>Nat.le_trans (hV y hy).2.1 (by decide)⟩,λy hy=>(hV y hy).2.2⟩,rfl⟩
abbrev spR(b:Nat)(s:Sp):Res:=.pt b (.cells (spE s).toArray 43 (0,0))
abbrev nmR(b:Nat)(s:B):Res:=.pt b (.cells [str s].toArray 9 (0,0))
abbrev s0(k:Int)(ty:Ty)(ns:Sli B)(e:Ex):Sp:=.mk k ty ns e false B0 B0 none 0 []
theorem c1Y(m:View)(h:List Res):Rd m h none 0 0 6 (fl foE []):=Rd.nilF foE 6 m h
abbrev SpX(m:View)(z:Pz)(i b:Nat)(ts:List Tok)(hT h:List Res)(M:PE (Option Sp))(v:Value)(h':List Res):Prop:=
 ∃so j X s,M=.ok (so,j)/\v=.tuple #[spV s,.bool (Option.isSome so)]/\h'=psR z j::(X++h)/\(so=none->j=i/\∃a c,X=[lnR b a ts.length c]/\Tk2 m hT a c ts)/\∀s',so=some s'->(i<j/\j<=z.R.length)/\stS s=s'/\Ss m X s
theorem a9q{m:View}{z:Pz}{i b:Nat}{ts:List Tok}{hT h:List Res}{M:PE (Option Sp)}{s:Sp}{s':Sp}{j:Nat}{X:List Res}(hM:M=.ok (some s',j))(hj:i<j/\j<=z.R.length)(hs:stS s=s')(hS:Ss m X s){H:List Res}(he:H=psR z j::(X++h)) :
 SpX m z i b ts hT h M (.tuple #[spV s,.bool true]) H:=⟨some s',j,X,s,hM,rfl,he,nofun,λ_ e=>by cases e;exact⟨hj,hs,hS⟩⟩
theorem sS1{m:View}{h:List Res}{k:Int}{ty:Ty}{ns:Sli B}{e:Ex}(hk:0<=k/\k<=255)(ht:TyW ty)(hn:Rd m h ns.a ns.l.length ns.c 1 (fl encB ns.l))(hw:∀x∈ns.l,x.length<=Big)(he:EOk m h e):Ss m h (s0 k ty ns e):=
 ⟨⟨hk,ht,hn,hw,he,a9F m h,λ_ hx=>(List.not_mem_nil hx).elim,c1Y m h,λ_ hx=>(List.not_mem_nil hx).elim,Rd.nilF prE 42 m h⟩,λ_ hx=>(List.not_mem_nil hx).elim⟩
theorem c8Y:TyW Go.Ty.zeroT:=⟨by decide,by decide,by decide,Nat.zero_le _⟩
theorem c4K{m:View}(hg:Glob m){z:Pz}(hz:Pok m z){n:Nat}(hrec:REC m z n)(d:Int)(i b:Nat)(a:Option Addr)(c:Nat)(ts:List Tok)(h hT:List Res)(hk:Tk2 m hT a c ts)(hs:hT.Sublist h)(hi:i<z.R.length)(hf:z.R.length<=i+n+1)(hd:0<=d/\d<=32) :
 CX prog 104 [ptV z.bp,.int .i64 d,ptV b] (psR z i::lnR b a ts.length c::h) m (λv _ h'=>SpX m z i b ts hT h (a8n z.R (C7 z.R n) d ts i) v h') (λv h'=>PrE z (a8n z.R (C7 z.R n) d ts i) h v h'):=by
 have hR:=hz.ok.1;have hq:a8n z.R (C7 z.R n) d ts i=if isM 2 [80,82,79,84,79,67,79,76] ts then L0 (a0j ts.tail) i λnm r=>U6 (a84 z.R d r i) λp i=>.ok (some (spM 4 Go.Ty.zeroT [nm] A2 p.1 p.2 [] []),i)
 else if isM 2 [80,82,79,67] ts then L0 (a0j ts.tail) i λnm r=>L0 (brM a5O r) i λfs r=>I0 r i λi=>U6 (C7 z.R n (d+1) false i) λx i=>a3P z.R d 5 [58] i λi=>.ok (some (spM 5 Go.Ty.zeroT [nm] A2 false [] fs [x]),i)
 else if isM 2 [86,65,76] ts then L0 (b0a ts.tail) i λt r=>L0 (a0j r) i λnm r=>a0l 2 [73,83] r i λr=>L0 (P5 r) i λe r=>b5s (spM 2 t [nm] e false [] [] []) r i
 else if isM 5 [91] ts||isM 2 [73,78,84] ts||isM 2 [66,89,84,69] ts||isM 2 [66,79,79,76] ts||isM 2 [67,72,65,78] ts||isM 2 [84,73,77,69,82] ts then L0 (b0a ts) i λt r=>L0 (U0 a0j [44] 8 r) i λns r=>if isM 2 [73,83] r then L0 (N8 r.tail) i λe r=>b5s (spM 3 t ns e false [] [] []) r i else b5s (spM 1 t ns A2 false [] [] []) r i
 else .ok (none,i):=rfl
 refine xB [0,1,2,6,7,9,23,50,67,95,106] func104 λ_=>?_;refine xW λb6=>?_
 refine kP1 [0,1,2,6] ?_;refine F4 KKh [0,2,6] rfl (λF' h'=>∃s:Sp,∃bl:List Res,∃x:Option Addr,∃y:Nat,∃r:List Tok,(Ss m bl s/\Tk2 m hT x y r/\a8n z.R (C7 z.R n) d ts i=b5s (stS s) r i)/\F'=[]/\lnR b x r.length y::spR b6 s::psR z i::(bl++h)=h') ?_ ?_;refine kA1 ?_;refine xf (E1 Ek) (N3 _ _ _) ?_;refine pD (lnR b a ts.length c) ?_;refine xg (E2 Et Et) (O2 b a c ts _ _ _ hk (by first|exact I5 Me|exact hs.trans Sb)) ?_;rintro _ _ ⟨a12,u12,r12,rfl,he12,hk12,rfl⟩;refine Z1 ?_;refine wc ?_ ?_<;>intro c9
 replace he12:=he12.trans (if_pos c9);subst r12;rw[if_pos c9]at hq;refine kA1 ?_;refine pD (lnR b a12 ts.tail.length u12) ?_;refine A1 Ef (E1 Et) (a2x b a12 u12 ts.tail _ _ hk12 (by first|exact I5 Me|exact hs.trans Sb)) Lb (λv hv hx=>?_) λv14 h14 hr14=>?_
 ·obtain⟨e,hx1,rfl,rfl⟩:=hx;rw[hx1]at hq;exact prP Tryz.f104 hq Sb
 obtain⟨x14,r14,a14,u14,hM14,⟨rfl,hw14⟩,hk14,rfl⟩:=hr14;rw[hM14,L4]at hq;refine xY P6 Eb λb15=>?_
 refine WL.perm (Mv.perm (bl:=[_])) ?_;refine ZZ [2,3] ?_;refine pP (psR z i) (lnR b a14 r14.length u14) ?_;refine A1 Ef (E3 Et Et Et) (c1B hg hz d i b a14 u14 r14 _ _ hk14 (by first|exact I5 Me|exact hs.trans Sb) hi hd) Lb (λv hv hx=>?_) λv20 h20 hr20=>?_
 ·obtain⟨e,j,hx1,rfl,rfl⟩:=hx;(first|rw[hx1]at hq|rw[M0 hx1]at hq);exact prP Tryz.f104 hq Sb
 obtain⟨x20,j20,bl20,hM20,hj20,⟨e20,q20,w20,l20,rfl,rfl,hP20,hL20⟩,rfl⟩:=hr20;refine WL.perm ((Mv.perm).cons _) ?_;rw[hM20,S1]at hq;refine ZZ [2,3,0] ?_;refine WC.ret (toX (.inl rfl) (c2k (h':=psR z j20::((nmR b15 x14::bl20)++h)) (.inl rfl) rfl (G4 a7B rfl rfl rfl Me rfl) (RV.tmp rfl) Vl Sb ?_));exact a9q hq hj20 (X8 _) (s:=.mk 4 Go.Ty.zeroT ⟨some ⟨b15,0,none⟩,1,[x14]⟩ A2 e20 ⟨q20,w20,l20⟩ B0 none 0 []) ⟨⟨(show(0:Int)<=4/\(4:Int)<=255 by decide),c8Y,Rd.ofPt rfl (by show 1<=_;decide) (List.Mem.head _),a1n hw14,H5 _ _,hP20.mono Vl (List.sublist_cons_self _ _),hL20,c1Y _ _,λ_ hx=>(List.not_mem_nil hx).elim,Rd.nilF prE 42 m _⟩,λ_ hx=>(List.not_mem_nil hx).elim⟩ rfl;replace he12:=he12.trans (if_neg (J8 c9));subst r12;rw[if_neg (J8 c9)]at hq;refine kA1 ?_;refine xf (E1 Ek) (N3 _ _ _) ?_;refine pD (lnR b a12 ts.length u12) ?_
 refine xg (E2 Et Et) (O2 b a12 u12 ts _ _ _ hk12 (by first|exact I5 Me|exact hs.trans Sb)) ?_;rintro _ _ ⟨a26,u26,r26,rfl,he26,hk26,rfl⟩;refine Z1 ?_;refine wc ?_ ?_<;>intro c23
 replace he26:=he26.trans (if_pos c23);subst r26;rw[if_pos c23]at hq;refine kA1 ?_;refine pD (lnR b a26 ts.tail.length u26) ?_;refine A1 Ef (E1 Et) (a2x b a26 u26 ts.tail _ _ hk26 (by first|exact I5 Me|exact hs.trans Sb)) Lb (λv hv hx=>?_) λv28 h28 hr28=>?_
 ·obtain⟨e,hx1,rfl,rfl⟩:=hx;rw[hx1]at hq;exact prP Tryz.f104 hq Sb
 obtain⟨x28,r28,a28,u28,hM28,⟨rfl,hw28⟩,hk28,rfl⟩:=hr28;rw[hM28,L4]at hq;refine xY P6 Eb λb29=>?_
 refine WL.perm (Mv.perm (bl:=[_])) ?_;refine kA2 ?_;refine xG (PO.makeFunc (E1 Et) Evs.nil) ?_;refine pD (lnR b a28 r28.length u28) ?_;refine A1 Ef (E2 Et Et) (c5n 182 a5O b a28 u28 r28 _ _ hk28 (by first|exact I5 Me|exact hs.trans Sb) (λa c ts h hk hs=>b9m hg b a c ts h _ hk hs)) Lb (λv hv hx=>?_) λv33 h33 hr33=>?_
 ·obtain⟨e,hx1,rfl,rfl⟩:=hx;rw[hx1]at hq;exact prP Tryz.f104 hq Sb
 obtain⟨x33,r33,a33,u33,bl33,hM33,⟨p33,q33,rfl,hS33,hF33⟩,hk33,rfl⟩:=hr33;refine WL.perm ((Mv.perm).cons _) ?_;rw[hM33,L4]at hq;refine ZZ [2,2] ?_;refine pP (psR z i) (lnR b a33 r33.length u33) ?_;refine A1 Ef (E2 Et Et) (N5 hz i b a33 u33 r33 _ (by omega)) Lb (λv hv hx=>?_) λv37 h37 hr37=>?_
 ·obtain⟨hx1,rfl,rfl⟩:=hx;rw[P7 hx1]at hq;exact prP Tryz.f104 hq Sb
 obtain⟨hz37,rfl⟩:=hr37;rw[P8 hz37]at hq;refine ZZ [0,3] ?_;refine pD (psR z (i+1)) ?_;refine A1 Ef (E3 Et Et Ek) (hrec (i+1) _ _ _ (by omega) (by omega) (by omega)) Lb (λv hv hx=>?_) λv41 h41 hr41=>?_
 ·obtain⟨e,j,hx1,rfl,rfl⟩:=hx;(first|rw[hx1]at hq|rw[M0 hx1]at hq);exact prP Tryz.f104 hq Sb
 obtain⟨x41,j41,bl41,hM41,hj41,⟨p41,rfl,rfl,hO41⟩,rfl⟩:=hr41;refine WL.perm ((Mv.perm).cons _) ?_;rw[hM41,S1]at hq;refine xY T9 Eb λb42=>?_
 refine WL.perm (Mv.perm (bl:=[_])) ?_;refine ZZ [2,2] ?_;refine xf (E1 Ek) (K0 _ _ _) ?_;refine xY B3 Eb λb47=>?_;refine pD (psR z j41) ?_;refine A1 Ef (E3 Et Et Et) (b3G hg hz j41 _ _ _ _ _ (by omega) (Rd.ofPt rfl (by decide) Me)) Lb (λv hv hx=>?_) λv48 h48 hr48=>?_
 ·obtain⟨e,hx1,rfl,rfl⟩:=hx;rw[hx1]at hq;exact prP Tryz.f104 hq Sb
 obtain⟨ho48,hz48,rfl⟩:=hr48;rw[hz48]at hq;refine ZZ [0,3,0] ?_;refine WC.ret (toX (.inl rfl) (c2k (h':=psR z (j41+1)::nmR b29 x28::prR b42 p41::(bl41++(bl33++h))) (.inl rfl) rfl (G4 a7B rfl rfl rfl Me rfl) (RV.tmp rfl) Vl Sb ?_));exact a9q hq (by omega) (X8 _) (s:=.mk 5 Go.Ty.zeroT ⟨some ⟨b29,0,none⟩,1,[x28]⟩ A2 false B0 ⟨p33,q33,x33⟩ (some ⟨b42,0,none⟩) 1 [p41]) ⟨⟨(show(0:Int)<=5/\(5:Int)<=255 by decide),c8Y,Rd.ofPt rfl (by show 1<=_;decide) (List.Mem.head _),a1n hw28,H5 _ _,a9F _ _,λ_ hx=>(List.not_mem_nil hx).elim,hS33.mono Vl (((List.sublist_append_right _ _).cons _).cons _),hF33,Rd.ofPt rfl (by show 1<=_;decide) (List.Mem.tail _ (List.Mem.head _))⟩,a1n (hO41.mono (((List.sublist_append_left _ _).cons _).cons _))⟩ (X:=nmR b29 x28::prR b42 p41::(bl41++bl33)) (by simp only[List.cons_append,List.append_assoc]);replace he26:=he26.trans (if_neg (J8 c23));subst r26
 rw[if_neg (J8 c23)]at hq;refine kA1 ?_;refine xf (E1 Ek) (N3 _ _ _) ?_;refine pD (lnR b a26 ts.length u26) ?_;refine xg (E2 Et Et) (O2 b a26 u26 ts _ _ _ hk26 (by first|exact I5 Me|exact hs.trans Sb)) ?_;rintro _ _ ⟨a53,u53,r53,rfl,he53,hk53,rfl⟩;refine Z1 ?_;refine wc ?_ ?_<;>intro c50
 replace he53:=he53.trans (if_pos c50);subst r53;rw[if_pos c50]at hq;refine kA1 ?_;refine pD (lnR b a53 ts.tail.length u53) ?_;refine A1 Ef (E1 Et) (b3g hg b a53 u53 ts.tail _ _ hk53 (by first|exact I5 Me|exact hs.trans Sb)) Lb (λv hv hx=>?_) λv55 h55 hr55=>?_
 ·obtain⟨e,hx1,rfl,rfl⟩:=hx;rw[hx1]at hq;exact prP Tryz.f104 hq Sb
 obtain⟨x55,r55,a55,u55,hM55,⟨rfl,hw55⟩,hk55,rfl⟩:=hr55;rw[hM55,L4]at hq;refine kA1 ?_;refine pD (lnR b a55 r55.length u55) ?_;refine A1 Ef (E1 Et) (a2x b a55 u55 r55 _ _ hk55 (by first|exact I5 Me|exact hs.trans Sb)) Lb (λv hv hx=>?_) λv57 h57 hr57=>?_
 ·obtain⟨e,hx1,rfl,rfl⟩:=hx;rw[hx1]at hq;exact prP Tryz.f104 hq Sb
 obtain⟨x57,r57,a57,u57,hM57,⟨rfl,hw57⟩,hk57,rfl⟩:=hr57;rw[hM57,L4]at hq;refine xY P6 Eb λb58=>?_
 refine WL.perm (Mv.perm (bl:=[_])) ?_;refine ZZ [2,1] ?_;refine xf (E1 Ek) (N3 _ _ _) ?_;refine xY B3 Eb λb62=>?_;refine pD (lnR b a57 r57.length u57) ?_;refine A1 Ef (E2 Et Et) (Q9 b a57 u57 r57 _ _ _ _ _ hk57 (by first|exact I5 Me|exact hs.trans Sb) (Rd.ofPt rfl (by decide) Me)) Lb (λv hv hx=>?_) λv63 h63 hr63=>?_
 ·obtain⟨hx1,rfl,rfl⟩:=hx;rw[a3q hx1]at hq;exact prP Tryz.f104 hq Sb
 obtain⟨hi63,a63,u63,hk63,rfl⟩:=hr63;rw[a3p hi63]at hq;refine ZZ [0,1] ?_;refine pD (lnR b a63 r57.tail.length u63) ?_;refine A1 Ef (E1 Et) (Y6 hg b a63 u63 r57.tail _ _ hk63 (by first|exact I5 Me|exact hs.trans Sb)) Lb (λv hv hx=>?_) λv65 h65 hr65=>?_
 ·obtain⟨e,hx1,rfl,rfl⟩:=hx;rw[hx1]at hq;exact prP Tryz.f104 hq Sb
 obtain⟨x65,r65,a65,u65,bl65,hM65,⟨t65,rfl,rfl,hO65⟩,hk65,rfl⟩:=hr65;refine WL.perm ((Mv.perm).cons _) ?_;rw[hM65,L4]at hq;refine kA2 ?_;refine WL.nil (B4 [] (h'':=lnR b a65 r65.length u65::spR b6 (s0 2 x55 ⟨some ⟨b58,0,none⟩,1,[x57]⟩ t65)::psR z i::((nmR b58 x57::bl65)++h)) ?_ Su Sb ⟨s0 2 x55 ⟨some ⟨b58,0,none⟩,1,[x57]⟩ t65,nmR b58 x57::bl65,a65,u65,r65,⟨sS1 (by decide) hw55 (Rd.ofPt rfl (by show 1<=_;decide) (List.Mem.head _)) (a1n hw57) (hO65.mono (List.sublist_cons_self _ _)),hk65,hq.trans (by rw[X8];rfl)⟩,rfl,rfl⟩);exact Su;replace he53:=he53.trans (if_neg (J8 c50));subst r53;rw[if_neg (J8 c50)]at hq;refine kA1 ?_;refine xf (E1 Ek) (K0 _ _ _) ?_;refine xf (E2 Et Et) (a4i b a53 u53 ts _ _ _ Me hk53 (by first|exact I5 Me|exact hs.trans Sb)) ?_;refine kP1 [0,2,6,67] ?_
 refine F4 KKh [0,2,6] rfl (λF' h'=>∃q:Bool,(q=(isM 5 [91] ts||isM 2 [73,78,84] ts||isM 2 [66,89,84,69] ts||isM 2 [66,79,79,76] ts||isM 2 [67,72,65,78] ts||isM 2 [84,73,77,69,82] ts))/\F'=[(67,.bool q)]/\lnR b a53 ts.length u53::spR b6 C3::psR z i::h=h') ?_ ?_;refine jE ?_;refine wc ?_ ?_<;>intro c67
 have e0:isM 5 [91] ts=true:=c67;refine WC.skip (B4 [(67,.bool (isM 5 [91] ts))] (h'':=lnR b a53 ts.length u53::spR b6 C3::psR z i::h) ?_ Su Sb ⟨isM 5 [91] ts,by rw[e0];rfl,rfl,rfl⟩);exact Su;have d0:isM 5 [91] ts=false:=c67;refine kA1 ?_;refine xf (E1 Ek) (N3 _ _ _) ?_;refine xf (E2 Et Et) (a4i b a53 u53 ts _ _ _ Me hk53 (by first|exact I5 Me|exact hs.trans Sb)) ?_;refine Z1 ?_;refine wc ?_ ?_<;>intro c67
 have e1:isM 2 [73,78,84] ts=true:=c67;refine WC.skip (B4 [(67,.bool (isM 2 [73,78,84] ts))] (h'':=lnR b a53 ts.length u53::spR b6 C3::psR z i::h) ?_ Su Sb ⟨isM 2 [73,78,84] ts,by rw[d0,e1];rfl,rfl,rfl⟩);exact Su;have d1:isM 2 [73,78,84] ts=false:=c67;refine kA1 ?_;refine xf (E1 Ek) (N3 _ _ _) ?_;refine xf (E2 Et Et) (a4i b a53 u53 ts _ _ _ Me hk53 (by first|exact I5 Me|exact hs.trans Sb)) ?_;refine Z1 ?_;refine wc ?_ ?_<;>intro c67
 have e2:isM 2 [66,89,84,69] ts=true:=c67;refine WC.skip (B4 [(67,.bool (isM 2 [66,89,84,69] ts))] (h'':=lnR b a53 ts.length u53::spR b6 C3::psR z i::h) ?_ Su Sb ⟨isM 2 [66,89,84,69] ts,by rw[d0,d1,e2];rfl,rfl,rfl⟩);exact Su;have d2:isM 2 [66,89,84,69] ts=false:=c67;refine kA1 ?_;refine xf (E1 Ek) (N3 _ _ _) ?_;refine xf (E2 Et Et) (a4i b a53 u53 ts _ _ _ Me hk53 (by first|exact I5 Me|exact hs.trans Sb)) ?_;refine Z1 ?_;refine wc ?_ ?_<;>intro c67
 have e3:isM 2 [66,79,79,76] ts=true:=c67;refine WC.skip (B4 [(67,.bool (isM 2 [66,79,79,76] ts))] (h'':=lnR b a53 ts.length u53::spR b6 C3::psR z i::h) ?_ Su Sb ⟨isM 2 [66,79,79,76] ts,by rw[d0,d1,d2,e3];rfl,rfl,rfl⟩);exact Su;have d3:isM 2 [66,79,79,76] ts=false:=c67;refine kA1 ?_;refine xf (E1 Ek) (N3 _ _ _) ?_;refine xf (E2 Et Et) (a4i b a53 u53 ts _ _ _ Me hk53 (by first|exact I5 Me|exact hs.trans Sb)) ?_;refine Z1 ?_;refine wc ?_ ?_<;>intro c67
 have e4:isM 2 [67,72,65,78] ts=true:=c67;refine WC.skip (B4 [(67,.bool (isM 2 [67,72,65,78] ts))] (h'':=lnR b a53 ts.length u53::spR b6 C3::psR z i::h) ?_ Su Sb ⟨isM 2 [67,72,65,78] ts,by rw[d0,d1,d2,d3,e4];rfl,rfl,rfl⟩);exact Su;have d4:isM 2 [67,72,65,78] ts=false:=c67;refine kA1 ?_;refine xf (E1 Ek) (N3 _ _ _) ?_;refine xf (E2 Et Et) (a4i b a53 u53 ts _ _ _ Me hk53 (by first|exact I5 Me|exact hs.trans Sb)) ?_;refine kA1 ?_;refine WL.nil (B4 [(67,.bool (isM 2 [84,73,77,69,82] ts))] (h'':=lnR b a53 ts.length u53::spR b6 C3::psR z i::h) ?_ Su Sb ⟨isM 2 [84,73,77,69,82] ts,by rw[d0,d1,d2,d3,d4];rfl,rfl,rfl⟩);exact Su;rintro _ _ ⟨q,hqq,rfl,rfl⟩;refine B2 rfl ?_;rw[<-hqq]at hq;refine jE ?_;refine wc ?_ ?_<;>intro c67
 rw[if_pos c67]at hq;refine kA1 ?_;refine pD (lnR b a53 ts.length u53) ?_;refine A1 Ef (E1 Et) (b3g hg b a53 u53 ts _ _ hk53 (by first|exact I5 Me|exact hs.trans Sb)) Lb (λv hv hx=>?_) λv87 h87 hr87=>?_
 ·obtain⟨e,hx1,rfl,rfl⟩:=hx;rw[hx1]at hq;exact prP Tryz.f104 hq Sb
 obtain⟨x87,r87,a87,u87,hM87,⟨rfl,hw87⟩,hk87,rfl⟩:=hr87;rw[hM87,L4]at hq;refine kA2 ?_;refine xG (PO.makeFunc (E1 Et) Evs.nil) ?_;refine pD (lnR b a87 r87.length u87) ?_;refine A1 Ef (E4 Et Ek Ek Et) (c2O 179 a0j [44] 8 b a87 u87 r87 _ _ hk87 (by first|exact I5 Me|exact hs.trans Sb) (by decide) (λa c ts h hk hs=>a2x b a c ts h _ hk hs)) Lb (λv hv hx=>?_) λv91 h91 hr91=>?_
 ·obtain⟨e,hx1,rfl,rfl⟩:=hx;rw[hx1]at hq;exact prP Tryz.f104 hq Sb
 obtain⟨x91,r91,a91,u91,bl91,hM91,⟨p91,q91,rfl,hS91,hO91⟩,hk91,rfl⟩:=hr91;refine WL.perm ((Mv.perm).cons _) ?_;rw[hM91,L4]at hq;refine ZZ [2,1] ?_;refine xf (E1 Ek) (N3 _ _ _) ?_;refine pD (lnR b a91 r91.length u91) ?_;refine xg (E2 Et Et) (O2 b a91 u91 r91 _ _ _ hk91 (by first|exact I5 Me|exact hs.trans Sb)) ?_;rintro _ _ ⟨a95,u95,r95,rfl,he95,hk95,rfl⟩;refine Z0 ?_;refine wc ?_ ?_<;>intro c95
 replace he95:=he95.trans (if_pos c95);subst r95;rw[if_pos c95]at hq;refine kA1 ?_;refine pD (lnR b a95 r91.tail.length u95) ?_;refine A1 Ef (E1 Et) (a1w hg b a95 u95 r91.tail _ _ hk95 (by first|exact I5 Me|exact hs.trans Sb)) Lb (λv hv hx=>?_) λv97 h97 hr97=>?_
 ·obtain⟨e,hx1,rfl,rfl⟩:=hx;rw[hx1]at hq;exact prP Tryz.f104 hq Sb
 obtain⟨x97,r97,a97,u97,bl97,hM97,⟨t97,rfl,rfl,hO97⟩,hk97,rfl⟩:=hr97;refine WL.perm ((Mv.perm).cons _) ?_;rw[hM97,L4]at hq;refine kA4 ?_;rw[<-List.append_assoc bl97 bl91];refine WL.nil (B4 [] (h'':=lnR b a97 r97.length u97::spR b6 (s0 3 x87 ⟨p91,q91,x91⟩ t97)::psR z i::((bl97++bl91)++h)) ?_ Su Sb ⟨s0 3 x87 ⟨p91,q91,x91⟩ t97,bl97++bl91,a97,u97,r97,⟨sS1 (by decide) hw87 (hS91.mono Vl (List.sublist_append_right _ _)) hO91 (hO97.mono (List.sublist_append_left _ _)),hk97,hq.trans (by rw[X8];rfl)⟩,rfl,rfl⟩);exact Su;replace he95:=he95.trans (if_neg (J8 c95));subst r95;rw[if_neg (J8 c95)]at hq;refine WC.skip (B4 [] (h'':=lnR b a95 r91.length u95::spR b6 (s0 1 x87 ⟨p91,q91,x91⟩ A2)::psR z i::(bl91++h)) ?_ Su Sb ⟨s0 1 x87 ⟨p91,q91,x91⟩ A2,bl91,a95,u95,r91,⟨sS1 (by decide) hw87 hS91 hO91 (H5 _ _),hk95,hq.trans (by rw[X8];rfl)⟩,rfl,rfl⟩);exact Su;rw[if_neg (J8 c67)]at hq
 refine WC.take (r:=psR z i) De ?_;refine Z3 ?_;refine WC.ret (toX (.inl rfl) (c2k (h':=psR z i::([lnR b a53 ts.length u53]++h)) (.inl rfl) rfl (G4 a7B rfl rfl rfl Me rfl) (RV.tmp rfl) Vl Sb ?_));exact⟨none,i,[lnR b a53 ts.length u53],C3,hq,rfl,rfl,λ_=>⟨rfl,_,_,rfl,hk53⟩,nofun⟩;rintro _ _ ⟨s,bl,x,y,r,⟨hS,hk1,hq⟩,rfl,rfl⟩;refine B2 rfl ?_;replace hq:a8n z.R (C7 z.R n) d ts i=a0l 5 [58] r i λr=>if spP (stS s)then I0 r i λi=>.ok (some (stS s),i)else .error (110,i):=hq
 rw[c6x]at hq;refine kA1 ?_;refine xf (E1 Ek) (K0 _ _ _) ?_;refine xY B3 Eb λb102=>?_
 refine pD (lnR b x r.length y) ?_;refine A1 Ef (E2 Et Et) (Q9 b x y r _ _ _ _ _ hk1 (by first|exact I5 Me|exact hs.trans Sb) (Rd.ofPt rfl (by decide) Me)) Lb (λv hv hx=>?_) λv103 h103 hr103=>?_
 ·obtain⟨hx1,rfl,rfl⟩:=hx;rw[a3q hx1]at hq;exact prP Tryz.f104 hq Sb
 obtain⟨hi103,a103,u103,hk103,rfl⟩:=hr103;rw[a3p hi103]at hq;refine ZZ [0,1] ?_;refine xf (E1 Et) (b8F hg s (hS.ok.mono ((List.sublist_append_left _ _).trans Sb))) ?_;refine Z1 ?_;refine wc ?_ ?_<;>intro c106
 have d106:spP s=false:=by simpa using c106
 rw[if_neg (J8 d106)]at hq;refine j0 ?_;refine A1 Ef Evs.nil (K9 _ _) Lb (λv hv hx=>?_) λv107 h107 hr107=>?_
 ·obtain⟨rfl,rfl⟩:=hx;exact prP Tryz.f104 hq Sb
 exact hr107.elim;have d106:spP s=true:=by simpa using c106
 rw[if_pos d106]at hq;refine ZZ [0,2] ?_;refine pP (psR z i) (lnR b a103 r.tail.length u103) ?_;refine A1 Ef (E2 Et Et) (N5 hz i b a103 u103 r.tail _ (by omega)) Lb (λv hv hx=>?_) λv110 h110 hr110=>?_
 ·obtain⟨hx1,rfl,rfl⟩:=hx;rw[P7 hx1]at hq;exact prP Tryz.f104 hq Sb
 obtain⟨hz110,rfl⟩:=hr110;rw[P8 hz110]at hq;refine ZZ [0,3,0] ?_;refine WC.ret (toX (.inl rfl) (c2k (h':=psR z (i+1)::(bl++h)) (.inl rfl) rfl (G4 a7B rfl rfl rfl Me rfl) (RV.tmp rfl) Vl Sb ?_));exact a9q hq (by omega) rfl hS rfl
end
section
open Go.Eng Go.Pc Go.Sx Go
open Go.Xp hiding B C9
open Go.Ty (Ty Vr Tok eqT tyV I7 A3 B8 O4 zeroK M8 D3)
open Go.Lx (encB encB_len lexO)
open Go.Ly (Rw P4 F9)
def kvs(bp:Nat):List (List UInt8×Value):=[([83,75,73,80],.func (.func 191) #[ptV bp] #[]),([83,84,79,80],.func (.func 192) #[ptV bp] #[]),([83,69,81],.func (.func 193) #[ptV bp] #[]),([80,65,82],.func (.func 194) #[ptV bp] #[]),([80,82,73],.func (.func 195) #[ptV bp] #[]),([65,76,84],.func (.func 196) #[ptV bp] #[]),([73,70],.func (.func 197) #[ptV bp] #[]),([67,65,83,69],.func (.func 198) #[ptV bp] #[]),([87,72,73,76,69],.func (.func 199) #[ptV bp] #[]),([80,76,65,67,69,68],.func (.func 200) #[ptV bp] #[])]
theorem b0W(bp:Nat)(h:List Res)(m:View):CT prog 105 [ptV bp] h m (λv _ h'=>∃b es ck,v=.map (some b)/\b0C es (kvs bp)/\h'=.pt b (.map es ck)::h):=by
 refine cB [0,2] func105 λ_=>?_;refine Z1 ?_;refine WL.makeMap Lb λb3=>?_
 have hM0:b0C #[] []:=rfl;refine kA1 ?_;refine xG (PO.makeFunc (E1 Et) Evs.nil) ?_;refine T8 (.inr rfl) a4Q uu9 hM0 rfl Et Ek Et (λ_ _=>Up) λes1 ck1 hM1=>?_;refine kA1 ?_;refine xG (PO.makeFunc (E1 Et) Evs.nil) ?_;refine T8 (.inr rfl) a4Q uu9 hM1 rfl Et Ek Et (λ_ _=>Up) λes2 ck2 hM2=>?_
 refine kA1 ?_;refine xG (PO.makeFunc (E1 Et) Evs.nil) ?_;refine T8 (.inr rfl) a4Q uu9 hM2 rfl Et Ek Et (λ_ _=>Up) λes3 ck3 hM3=>?_;refine kA1 ?_;refine xG (PO.makeFunc (E1 Et) Evs.nil) ?_;refine T8 (.inr rfl) a4Q uu9 hM3 rfl Et Ek Et (λ_ _=>Up) λes4 ck4 hM4=>?_
 refine kA1 ?_;refine xG (PO.makeFunc (E1 Et) Evs.nil) ?_;refine T8 (.inr rfl) a4Q uu9 hM4 rfl Et Ek Et (λ_ _=>Up) λes5 ck5 hM5=>?_;refine kA1 ?_;refine xG (PO.makeFunc (E1 Et) Evs.nil) ?_;refine T8 (.inr rfl) a4Q uu9 hM5 rfl Et Ek Et (λ_ _=>Up) λes6 ck6 hM6=>?_
 refine kA1 ?_;refine xG (PO.makeFunc (E1 Et) Evs.nil) ?_;refine T8 (.inr rfl) a4Q uu9 hM6 rfl Et Ek Et (λ_ _=>Up) λes7 ck7 hM7=>?_;refine kA1 ?_;refine xG (PO.makeFunc (E1 Et) Evs.nil) ?_;refine T8 (.inr rfl) a4Q uu9 hM7 rfl Et Ek Et (λ_ _=>Up) λes8 ck8 hM8=>?_
 refine kA1 ?_;refine xG (PO.makeFunc (E1 Et) Evs.nil) ?_;refine T8 (.inr rfl) a4Q uu9 hM8 rfl Et Ek Et (λ_ _=>Up) λes9 ck9 hM9=>?_;refine kA1 ?_;refine xG (PO.makeFunc (E1 Et) Evs.nil) ?_;refine T8 (.inr rfl) a4Q uu9 hM9 rfl Et Ek Et (λ_ _=>Up) λes10 ck10 hM10=>?_
 refine Z2 ?_;refine wT (.pt b3 (.map es10 ck10)::h) ?_;exact⟨b3,es10,ck10,rfl,hM10,rfl⟩
theorem b0T(bp:Nat)(h:List Res)(m:View):CX prog 105 [ptV bp] h m (λv _ h'=>∃hp',h'=hp'++h/\∃b es ck,v=.map (some b)/\b0C es (kvs bp)/\hp'=[.pt b (.map es ck)]) (λ_ _=>False):=
 CX.ofCT (CT.conv (b0W bp h m) λ_ m' _ _ _ st ⟨b,es,ck,e1,e2,e3⟩=>⟨m',[.pt b (.map es ck)]++h,Vl,by rw[e3]at st;exact st,_,rfl,b,es,ck,e1,e2,rfl⟩)
abbrev d0c(m:View)(z:Pz)(n:Nat)(id:FuncId)(f:Int->List Tok->Nat->PE Pr):Prop:=∀(d:Int)(i b:Nat)(a:Option Addr)(c:Nat)(ts:List Tok)(h hT:List Res),Tk2 m hT a c ts->hT.Sublist h->i<z.R.length->z.R.length<=i+n+1->(0<=d/\d<=32) ->
 QrX m z id [ptV z.bp,.int .i64 d,ptV b] i b a c ts h (f d ts i) (OP m)
theorem c4g{m:View}(hg:Glob m){z:Pz}(hz:Pok m z){n:Nat}(hrec:REC m z n){s:B}{v:Value}(hv:a2l s (kvs z.bp)=some v):∃id,v=.func (.func id) #[ptV z.bp] #[]/\∃f,a5c z.R (C7 z.R n) s=some f/\d0c m z n id f:=by
 by_cases h0:s=[83,75,73,80]
 ·subst h0
  exact⟨_,(Option.some.inj hv).symm,_,rfl,λd i b a c ts h _ _ _ hi _ _=>c4G hz d i b a c ts h hi⟩
 by_cases h1:s=[83,84,79,80]
 ·subst h1
  exact⟨_,(Option.some.inj hv).symm,_,rfl,λd i b a c ts h _ _ _ hi _ _=>c5p hz d i b a c ts h hi⟩
 by_cases h2:s=[83,69,81]
 ·subst h2
  exact⟨_,(Option.some.inj hv).symm,_,rfl,λd i b a c ts h hT=>c4o hg hz hrec d i b a c ts h hT⟩
 by_cases h3:s=[80,65,82]
 ·subst h3
  exact⟨_,(Option.some.inj hv).symm,_,rfl,λd i b a c ts h hT=>c4M hg hz hrec d i b a c ts h hT⟩
 by_cases h4:s=[80,82,73]
 ·subst h4
  exact⟨_,(Option.some.inj hv).symm,_,rfl,λd i b a c ts h hT=>c7s hg hz hrec d i b a c ts h hT⟩
 by_cases h5:s=[65,76,84]
 ·subst h5
  exact⟨_,(Option.some.inj hv).symm,_,rfl,λd i b a c ts h hT=>c6b hg hz hrec d i b a c ts h hT⟩
 by_cases h6:s=[73,70]
 ·subst h6
  exact⟨_,(Option.some.inj hv).symm,_,rfl,λd i b a c ts h hT=>b7k hg hz hrec d i b a c ts h hT⟩
 by_cases h7:s=[67,65,83,69]
 ·subst h7
  exact⟨_,(Option.some.inj hv).symm,_,rfl,λd i b a c ts h hT=>c7D hg hz hrec d i b a c ts h hT⟩
 by_cases h8:s=[87,72,73,76,69]
 ·subst h8
  exact⟨_,(Option.some.inj hv).symm,_,rfl,λd i b a c ts h hT=>c3Z hg hz hrec d i b a c ts h hT⟩
 by_cases h9:s=[80,76,65,67,69,68]
 ·subst h9
  exact⟨_,(Option.some.inj hv).symm,_,rfl,λd i b a c ts h hT=>c0k hg hz hrec d i b a c ts h hT⟩
 exfalso;unfold kvs at hv;simp only[a2l,if_neg h0,if_neg h1,if_neg h2,if_neg h3,if_neg h4,if_neg h5,if_neg h6,if_neg h7,if_neg h8,if_neg h9]at hv;cases hv
theorem b9j{bp:Nat}{R:List Rw}{rec:Int->Bool->Nat->PE Pr}{s:B}(hv:a2l s (kvs bp)=none):a5c R rec s=none:=by
 by_cases h0:s=[83,75,73,80]
 ·subst h0
  cases hv
 by_cases h1:s=[83,84,79,80]
 ·subst h1
  cases hv
 by_cases h2:s=[83,69,81]
 ·subst h2
  cases hv
 by_cases h3:s=[80,65,82]
 ·subst h3
  cases hv
 by_cases h4:s=[80,82,73]
 ·subst h4
  cases hv
 by_cases h5:s=[65,76,84]
 ·subst h5
  cases hv
 by_cases h6:s=[73,70]
 ·subst h6
  cases hv
 by_cases h7:s=[67,65,83,69]
 ·subst h7
  cases hv
 by_cases h8:s=[87,72,73,76,69]
 ·subst h8
  cases hv
 by_cases h9:s=[80,76,65,67,69,68]
 ·subst h9
  cases hv
 unfold a5c;simp only[if_neg h0,if_neg h1,if_neg h2,if_neg h3,if_neg h4,if_neg h5,if_neg h6,if_neg h7,if_neg h8,if_neg h9]
theorem c2N{m:View}(hg:Glob m){z:Pz}(hz:Pok m z)(i:Nat)(d:Int)(h:List Res)(hi:i=z.R.length):CX prog 51 [ptV z.bp,.int .i64 d] (psR z i::h) m
 (λ_ _ _=>False) (λv h'=>v=wrV 110/\h'=psR z i::h):=
 (a4L hg hz i d h (by omega)).mono (λ_ _ _ ⟨_,_,_,_,hM,_⟩=>absurd (a2A hz hM).1.1 (by omega)) λ_ _ ⟨e,j,hM,e1,e2⟩=>by
  rw[a3V (by omega)]at hM;cases hM;exact⟨e1,e2⟩
theorem d06{m:View}(hg:Glob m){z:Pz}(hz:Pok m z):REC m z 0:=by
 intro i d top h hi hf hd;have hq:C7 z.R 0 d top i=.error (110,i):=rfl;refine xB [0,1,2,6] func50 λ_=>?_;refine xW λb6=>?_
 refine ZZ [0,2] ?_;refine pD (psR z i) ?_;refine A1 Ef (E2 Et Et) (c2N hg hz i d _ (by omega)) Lb (λv hv hx=>?_) λv14 h14 hr14=>?_
 ·obtain⟨rfl,rfl⟩:=hx
  exact prP Tryz.f50 hq Sb
 exact hr14.elim
theorem d0e{m:View}(hg:Glob m){z:Pz}(hz:Pok m z){n:Nat}(hrec:REC m z n):REC m z (n+1):=by
 intro i d top h hi hf hd;have hR:=hz.ok.1;have hq:C7 z.R (n+1) d top i=a2n z.R d i λts=>U6 (a8n z.R (C7 z.R n) d ts i) λso i=>match so with
  |some s=>U6 (C7 z.R n d top i) λx i=>.ok (prM 18 [] A2 [] [] F2 [] [x] [] s,i)
  |none=>a8t z.R (C7 z.R n) d top ts i:=rfl
 refine xB [0,1,2,6,7,8,9,10,11,22,66] func50 λ_=>?_;refine xW λb6=>?_
 refine ZZ [0,2] ?_;refine pD (psR z i) ?_;refine A1 Ef (E2 Et Et) (a4L hg hz i _ _ (by omega)) Lb (λv hv hx=>?_) λv14 h14 hr14=>?_
 ·obtain⟨e,j,hx1,rfl,rfl⟩:=hx;(first|rw[hx1]at hq|rw[M0 hx1]at hq);exact prP Tryz.f50 hq Sb
 obtain⟨r14,b14,a14,u14,hM14,rfl,hk14,rfl⟩:=hr14;have ho14:=a2A hz hM14;rw[a5a hM14]at hq;refine ZZ [1,3] ?_;refine pP (psR z i) (lnR b14 a14 r14.length u14) ?_;refine A1 Ef (E3 Et Et Et) (c4K hg hz hrec d i b14 a14 u14 r14 _ _ hk14 (I5 Me) (by omega) (by omega) (by omega)) Lb (λv hv hx=>?_) λv19 h19 hr19=>?_
 ·obtain⟨e,j,hx1,rfl,rfl⟩:=hx;(first|rw[hx1]at hq|rw[M0 hx1]at hq);exact prP Tryz.f50 hq Sb
 obtain⟨so,j19,X19,s19,hM19,rfl,rfl,hN,hS⟩:=hr19;refine WL.perm ((Mv.perm).cons _) ?_;rw[hM19,S1]at hq;refine kA3 ?_;refine xW λb8=>?_
 refine ZZ [2,1,0] ?_;refine wc ?_ ?_<;>intro c22
 obtain⟨s',rfl⟩:=Option.isSome_iff_exists.1 c22;obtain⟨hj19,hst19,hS19⟩:=hS s' rfl;dsimp only at hq;refine jE ?_;refine WC.drop (h':=spR b8 s19::psR z j19::prR b6 (p0 0 [] A2 B0 B0 F2)::(X19++h)) Sb ?_;refine WC.take (r:=psR z j19) De ?_;refine F3 [4,5] (.op 0 (.op 1 (.op 2 (.op 3 (.op 4 (.op 5 .nil)))))) [6,7] _ [_] C4 (λ_ _ _ _ _ h=>h) [] (by kernel_rfl) ?_;refine kA4 ?_;refine a1M rfl rfl Ef (E3 Et Et Et) (λfr=>c7k hrec j19 d top _ (by omega) (by omega) (by omega)) Lb (λfr v hv hx=>?_) λv27 h27 hr27=>?_
 ·obtain⟨e,j2,hx1,rfl,rfl⟩:=hx
  rw[hx1]at hq;exact prP Tryz.f50 hq ((a3l Sb fr).cons_cons _)
 obtain⟨p27,j27,bl27,hM27,hj27,rfl,hO27,rfl⟩:=hr27;refine sB rfl T9 λb28=>?_;refine a2v (H:=psR z j27::prR b28 p27::spR b8 s19::prR b6 (p0 0 [] A2 B0 B0 F2)::(bl27++(X19++h))) rfl ((List.Perm.swap _ _ _).trans (((a08 bl27 [_,_] (X19++h)).cons _).cons _)) ?_;refine Z2 ?_;refine xT (psR z j27::(prR b28 p27::(bl27++(X19++h)))) (h1:=cA S9) ?_;rw[hM27,S1]at hq;exact⟨_,_,prR b28 p27::(bl27++X19),hq,⟨by omega,hj27.2⟩,⟨.mk 18 [] A2 B0 B0 F2 none 0 [] (some ⟨b28,0,none⟩) 1 [p27] B0 s19,rfl,hst19▸X9 _,a6l (by decide) (Nat.zero_le _) (H5 _ _) (I4 _ _) (I4 _ _) (a0g _ _) (a1y _ _) ⟨Rd.ofPt rfl (by show 1<=_;decide) (List.Mem.head _),a1n (hO27.mono ((List.sublist_append_left _ _).cons _))⟩ (a0D _ _) (hS19.mono ((List.sublist_append_right _ _).cons _))⟩,by rw[List.cons_append,List.append_assoc]⟩
 obtain rfl:so=none:=by cases so with|none=>rfl|some _=>cases c22
 obtain⟨hji,a2,c2,rfl,hk2⟩:=hN rfl;obtain rfl:i=j19:=hji.symm;dsimp only at hq;have hne:=c5k hz hM14;obtain⟨t,ht⟩:∃t,t=r14.getD 0 zeroK:=⟨_,rfl⟩;have hel:r14[0]?=some t:=by rw[ht,List.getD_eq_getElem?_getD,List.getElem?_eq_getElem hne];rfl
 have hrd:=hk2.k.rd;refine Z0 ?_;refine F3 [1,9] (.op 0 (.op 2 (.op 3 (.op 4 (.op 5 (.op 6 (.op 7 (.op 8 (.op 1 (.op 9 (.op 10 (.op 11 (.op 12 .nil))))))))))))) [13,14] _ [] C4 (λ_ _ _ _ _ h=>h) [12] (by kernel_rfl) ?_;refine kA5 ?_;refine yG rfl (D8 B3.und B3.size B3.posz (Ev.tmp rfl) Ek Rr rfl (q:=0) (by omega)) ?_;refine kA2 ?_;refine a1M rfl rfl Ef (E1 Et) (λfr=>b0T z.bp _ m) Lb (λfr v hv hx=>?_) λv32 h32 hr32=>?_
 ·exact hx.elim
 obtain⟨b32,es32,ck32,rfl,hM32,rfl⟩:=hr32;refine b6x rfl rfl (λfr=>b7i a4Q uu9 rfl hM32 Et Et (List.mem_append_right _ Me)) Lb ?_;refine kA1 ?_;refine yG rfl (PO.extract Et rfl) ?_;refine yG rfl (PO.extract Et rfl) ?_;refine SR.nil rfl rfl ?_;refine ZZ [2,3] ?_;refine zG (λhc=>PO.nilCheck (Eg hc)) ?_;refine kA2 ?_;refine E8 (GU.t rfl rfl) (λhc=>D8 B3.und B3.size B3.posz (Eg hc) Ek Rr rfl (q:=0) (by omega)) Lb ?_;refine zG (λhc=>G6 M4 rfl (Nat.ne_of_beq_eq_false rfl) B8 (Nat.succ_pos _) Rr (by assumption) (Eg hc)) ?_;refine zG (λhc=>G8 b4X rfl B8 Rr (Eg hc) (by assumption) rfl) ?_;refine kA6 ?_;refine zG (λhc=>PO.nilCheck (Eg hc)) ?_;refine kA2 ?_;refine E8 (a4P rfl rfl) (λhc=>D8 B3.und B3.size B3.posz (Eg hc) Ek Rr rfl (q:=0) (by omega)) Lb ?_;refine zG (λhc=>G6 M4 rfl (Nat.ne_of_beq_eq_false rfl) B8 (Nat.succ_pos _) Rr (by assumption) (Eg hc)) ?_
 refine zG (λhc=>G8 uu9 rfl B8 Rr (Eg hc) (by assumption) rfl) ?_;refine zG (λhc=>S2 (Eg hc) Ek) ?_;refine zG (λhc=>S0 hc rfl rfl) ?_;refine Z1 ?_;refine wc ?_ ?_<;>intro c66
 have d66:(∃v,a2l t.text (kvs z.bp)=some v)/\t.kind=2/\(top=true\/t.text≠[80,76,65,67,69,68]):=by simp only[Bool.and_eq_true,Bool.or_eq_true,beq_iff_eq,Bool.not_eq_true',beq_eq_false_iff_ne,ne_eq]at c66;exact⟨Option.isSome_iff_exists.1 c66.1.1,c66.1.2,c66.2⟩
 obtain⟨⟨v,hv⟩,hc⟩:=d66;obtain⟨id,rfl,f,hf2,hQ⟩:=c4g hg hz hrec hv;rw[b8X hel hf2 hc]at hq;rw[hv];refine kA5 ?_;refine xG (a1z B3.und B3.size Et Ek (l:=1) rfl (by omega)) ?_;refine kA3 ?_;rw[<-List.length_tail];refine ZZ [0,3] ?_;refine pP (psR z i) (lnR b14 (sl1 a2 1 c2 4) r14.tail.length (c2-1)) ?_;refine A1 (Ev.tmp rfl) (E2 (Ev.tmp rfl) (Ev.tmp rfl)) (hQ d i b14 _ _ r14.tail _ _ (hk2.tail hne) (I5 Me) (by omega) (by omega) (by omega)) Lb (λv hv hx=>?_) λv78 h78 hr78=>?_
 ·obtain⟨e,j,hx1,rfl,rfl⟩:=hx;(first|rw[hx1]at hq|rw[M0 hx1]at hq);exact prP Tryz.f50 hq Sb
 obtain⟨x78,j78,bl78,hM78,hj78,⟨p78,rfl,rfl,hO78⟩,rfl⟩:=hr78;refine WL.perm ((Mv.perm).cons _) ?_;rw[hM78]at hq;refine Z1 ?_;refine xT (psR z j78::(bl78++h)) (h1:=cA S9) ?_;exact⟨_,_,bl78,hq,hj78,⟨p78,rfl,rfl,hO78⟩,rfl⟩;have d66:a5c z.R (C7 z.R n) t.text=none\/¬(t.kind=2/\(top=true\/t.text≠[80,76,65,67,69,68])):=by
  cases hv:a2l t.text (kvs z.bp)with
  |none=>exact .inl (b9j hv)
  |some v=>
   refine .inr λq=>?_;rw[hv]at c66;have:((((some v).isSome&&(t.kind==2))&&(top||!(t.text==[80,76,65,67,69,68]))):Bool)=true:=by simp only[Bool.and_eq_true,Bool.or_eq_true,beq_iff_eq,Bool.not_eq_true',beq_eq_false_iff_ne,ne_eq];exact⟨⟨rfl,q.1⟩,q.2⟩
   exact absurd (this.symm.trans c66) (by decide)
 rw[b4q hel d66]at hq;refine ZZ [0,3] ?_;refine pP (psR z i) (lnR b14 a2 r14.length c2) ?_;refine A1 Ef (E3 Et Et Et) (b9R hg hz hrec d i b14 a2 c2 r14 _ _ hk2 (I5 Me) (by omega) (by omega) (by omega) hne) Lb (λv hv hx=>?_) λv82 h82 hr82=>?_
 ·obtain⟨e,j,hx1,rfl,rfl⟩:=hx;(first|rw[hx1]at hq|rw[M0 hx1]at hq);exact prP Tryz.f50 hq Sb
 obtain⟨x82,j82,bl82,hM82,hj82,⟨p82,rfl,rfl,hO82⟩,rfl⟩:=hr82;refine WL.perm ((Mv.perm).cons _) ?_;rw[hM82]at hq;refine Z1 ?_;refine xT (psR z j82::(bl82++h)) (h1:=cA S9) ?_;exact⟨_,_,bl82,hq,hj82,⟨p82,rfl,rfl,hO82⟩,rfl⟩
theorem c9J{m:View}(hg:Glob m){z:Pz}(hz:Pok m z):∀n,REC m z n
 |0=>d06 hg hz
 |n+1=>d0e hg hz (c9J hg hz n)
end
end Go.Proofs.YtkgfanibfkdbfaaGreatDoor
namespace Go.Proofs.YtkgfanibfkdbfaaGreatDoor.Ly7
open Go.Proofs.Tryz
section
open Go.Eng Go.Ly Go
theorem b0M(l:B)(c:UInt8)(h:List Res)(m:View):CT prog 160 [str l,.int .u8 c.toNat] h m (A7 h (.int .i64 (Lib.indexByte l c))):=
 CT.ofCalls call160 λw _=>by
  have:=Tryz.strings_IndexByte ⟨l.toArray⟩ c.toNat w;rw[show(c.toNat:Int).toNat.toUInt8=c by simp]at this;exact this
theorem b75(c:UInt8)(h:List Res)(m:View):CT prog 83 [.int .u8 c.toNat] h m (A7 h (.bool (okB c))):=by
 refine cB [0,2] func83 λ_=>?_;refine ZZ [1,7,0] ?_;refine wT h ?_;exact⟨rfl,rfl⟩
theorem c0S{s:B}(h0:s≠[]):∃c,s[s.length-1]?=some c/\a8J s=b2v.contains c:=by
 refine⟨s.getLast h0,?_,?_⟩
 ·rw[<-List.getLast?_eq_getElem?,List.getLast?_eq_some_getLast h0]
 ·unfold a8J
  rw[List.getLast?_eq_some_getLast h0]
theorem b2L(s:B)(h0:s≠[])(hs:s.length<=9223372036854775807)(h:List Res)(m:View):CT prog 82 [str s] h m (A7 h (.bool (a8J s))):=by
 obtain⟨c,hc,he⟩:=c0S h0;have hp:0<s.length:=List.length_pos_iff.2 h0;refine cB [0,2] func82 λ_=>?_;refine ZZ [1,2] ?_;refine xG (I8 uu9 Et) ?_;refine xG (Q4 Et Ek (by omega)) ?_;refine WL.val (v':=.int .i64 ((s.length-1:Nat):Int)) (congrArg (Value.int .i64) (by omega)) ?_;refine xG (I9 uu9 Et Et rfl (by assumption)) ?_;refine xf (E2 Ek Et) (CT.argsE rfl (b0M b2v c _ _)) ?_;refine Z2 ?_;refine wT h ?_;exact⟨by rw[he,<-b5r],rfl⟩
theorem c4X(s:B)(h:List Res)(m:View)(hs:s.length<=9223372036854775807):CT prog 80 [str s,str [32]] h m (A7 h (str (Lib.trimB s 32))):=
 ⟨call80,λw st=>Calls.mono (Tryz.strings_Trim_one ⟨s.toArray⟩ 32 (by decide) w hs) (by
  rintro e w' ⟨rfl,hw⟩;rcases hw with rfl|rfl
  ·exact⟨_,m,h,rfl,Vl,st,rfl,rfl⟩
  ·exact⟨_,m,h,rfl,Vl,st.drew,rfl,rfl⟩)⟩
theorem c3C{m:View}(hg:Glob m)(s:B)(hs:s.length<=140737488355328)(h:List Res):CT prog 37 [str s] h m (A7 h (.bool (validP s))):=by
 have hs':s.length<=140737488355328:=by omega
 have hs2:s.length<=9223372036854775807:=by omega
 have hd:∀k,k<s.length->s[k]?=some (s.getD k 0):=λk hi=>by rw[List.getD_eq_getElem?_getD,List.getElem?_eq_getElem hi];rfl
 refine cB [0,2,3,24,26,27,28,34] func37 λ_=>?_;refine ZZ [1,1] ?_;refine xG (H3 Et Ek) ?_;refine kA2 ?_;refine zG (λhc=>I8 uu9 (Eg hc)) ?_;refine kA4 ?_;refine A4 (GU.f rfl rfl) (λhc=>⟨Ef,(E2 (Eg hc) Ek),c4X s _ _ hs2⟩) Lb ?_;refine kA1 ?_;refine zG (λhc=>S2 (Eg hc) (Eg hc)) ?_;refine kA3 ?_;refine A4 (GU.f rfl rfl) (λhc=>⟨Ef,(E2 (Eg hc) Ek),a1P hg s [45,45] (by simp at hc;omega) _⟩) Lb ?_;refine kA3 ?_;refine A4 (GU.f rfl rfl) (λhc=>⟨Ef,(E1 (Eg hc)),b2L s (by intro e;subst e;simp at hc) hs2 _ _⟩) Lb ?_;refine Z1 ?_;refine wc ?_ ?_<;>intro c24
 have hb:c0q s=true:=c24;refine Z1 ?_;refine wT h ?_;exact⟨by unfold validP;rw[hb];rfl,rfl⟩;have hb:c0q s=false:=c24;have hv:validP s=s.all okB:=by unfold validP;rw[hb];rfl
 refine ZZ [0,1] ?_;refine xG (I8 uu9 Et) ?_;refine Z1 ?_;refine B1 [0,26] rfl (λμ F' h'=>∃k:Nat,(k<=s.length/\s.all okB=(s.drop k).all okB)/\s.length-k=μ/\F'=[(27,.int .i64 k)]/\h=h') (s.length-0) [(27,.int .i64 0)] (h0:=h) ?_ Sb ⟨0,⟨by omega,rfl⟩,rfl,rfl,rfl⟩ ?_;exact Su;rintro _ _ _ ⟨k,⟨hk,hJ⟩,rfl,rfl,rfl⟩;refine B2 rfl ?_;refine Z1 ?_;refine wD ?_ ?_<;>intro c28
 obtain⟨c,hc⟩:=A5 (l:=s) (k:=k) (by omega);have hJ:s.all okB=(okB c&&(s.drop (k+1)).all okB):=by rw[hJ,W5 hc];rfl
 refine ZZ [0,2,2] ?_;refine xG (I9 uu9 Et Et rfl (by assumption)) ?_;refine xf (E1 Et) (b75 _ _ _) ?_;refine Z1 ?_;refine wc ?_ ?_<;>intro c34
 have hn:okB c=false:=by simpa using c34
 refine Z1 ?_;refine wT h ?_;exact⟨by rw[hv,hJ,hn];rfl,rfl⟩;have hn:okB c=true:=by simpa using c34
 refine ZZ [0,2] ?_;refine WL.nil (A6 (s.length-(k+1)) [(27,.int .i64 (k+1))] (h'':=h) (by omega) ?_ Su Sb ⟨k+1,⟨by omega,by rw[hJ,hn];rfl⟩,rfl,rfl,rfl⟩);exact Su;refine ZZ [0,1,0] ?_;refine wT h ?_;exact⟨by rw[hv,hJ,List.drop_eq_nil_of_le (by omega)];rfl,rfl⟩
theorem may_ct{m:View}(hg:Glob m)(a:Option Addr)(n c:Nat)(l:List Rw)(h:List Res)(hr:Rd m h a n c 3 (fl P4 l))(hs:∀x∈l,x.text.length<=140737488355328):CT prog 15 [.slice a n c] h m (A7 h (.bool (mayP l))):=by
 have hl:=hr.lenF F9 (by decide);have hmx:=hr.mx;have hle:=hr.le;subst hl;refine cB [0,2,3,4,5,7,10,11,12,13,14,44] func15 λ_=>?_;refine ZZ [1,3,0] ?_;refine wD ?_ ?_<;>intro c10
 refine Z1 ?_;refine wT h ?_;exact⟨by unfold mayP;rw[if_pos c10],rfl⟩;have hm:mayP l=b1c 0 (-1) 0 l:=by unfold mayP;rw[if_neg c10]
 refine ZZ [0,3,3,0] ?_;refine B1 [11,12] rfl (λμ F' h'=>∃k:Nat,∃no:Int,∃dp:Int,∃size:Int,((k<=l.length/\(-1<=dp/\dp<=32)/\(0<=size/\size<=k*321))/\mayP l=b1c no dp size (l.drop k))/\l.length-k=μ/\F'=[(3,.int .i64 no),(4,.int .i64 dp),(5,.int .i64 size),(13,.int .i64 k)]/\h=h') (l.length-0) [(3,.int .i64 0),(4,.int .i64 (-1)),(5,.int .i64 0),(13,.int .i64 0)] (h0:=h) ?_ Sb ⟨0,0,-1,0,⟨⟨by omega,by omega,by omega⟩,hm⟩,rfl,rfl,rfl⟩ ?_;exact Su;rintro _ _ _ ⟨k,no,dp,size,⟨⟨hk,hdp,hsz⟩,hJ⟩,rfl,rfl,rfl⟩;refine B2 rfl ?_;refine Z1 ?_;refine wD ?_ ?_<;>intro c14
 obtain⟨x,hx⟩:=A5 (l:=l) (k:=k) (by omega);have hxs:=hs x (List.mem_of_getElem? hx);rw[b2w hx]at hJ;refine ZZ [0,2] ?_;refine xW λb7=>?_
 refine ZZ [1,12] ?_;refine kA6 ?_;refine E8 (GU.f rfl rfl) (λhc=>L6 (Eg hc) Ek (by first|omega|(simp at hc;omega))) Lb ?_;refine zG (λhc=>PO.min (Eg hc) Ek) ?_;refine kA5 ?_;refine A4 (GU.f rfl rfl) (λhc=>⟨Ef,(E1 (Eg hc)),c3C hg x.text hxs _⟩) Lb ?_;refine Z2 ?_;refine wc ?_ ?_<;>intro c44
 have hb:b1b no dp x=true:=c44;rw[if_pos hb]at hJ;refine Z1 ?_;refine wT h ?_;exact⟨by rw[hJ],rfl⟩;have hb:b1b no dp x=false:=c44;rw[hb]at hJ;obtain⟨h1,h2,h3,h4,h5,h6⟩:=b3x hb;have h7:=(validP_spec h6).2.1;refine Z0 ?_;refine dS [] (.op 0 (.op 1 (.op 2 (.op 3 (.op 4 (.op 5 (.op 6 (.op 7 (.op 8 (.op 9 (.op 10 (.op 11 (.op 12 (.op 13 (.op 14 (.op 15 .nil)))))))))))))))) [16] C4 ?_;refine kA7 ?_;refine yG rfl (a8X Ek Et (by omega)) ?_;refine yG rfl (L6 Et Et (by omega)) ?_;refine kA2 ?_;refine yG rfl (I8 uu9 Et) ?_;refine yG rfl (L6 Et Et (by omega)) ?_;refine yG rfl (L6 Et Ek (by omega)) ?_;refine yG rfl (PO.assign Et) ?_;refine yG rfl (PO.assign Et) ?_;refine SR.nil rfl rfl ?_;refine ZZ [1,2] ?_
 refine WL.nil (A6 (l.length-(k+1)) [(3,.int .i64 (x.no)),(4,.int .i64 (x.depth)),(5,.int .i64 (size+2*x.depth+x.text.length+1)),(13,.int .i64 (k+1))] (h'':=h) (by omega) ?_ Su Sb ⟨k+1,x.no,x.depth,size+2*x.depth+x.text.length+1,⟨⟨by omega,by omega,by omega⟩,hJ⟩,rfl,rfl,rfl⟩);exact Su;rw[List.drop_eq_nil_of_le (by omega)]at hJ;refine ZZ [0,3,0] ?_;refine wT h ?_;exact⟨by rw[hJ];rfl,rfl⟩
end
end Go.Proofs.YtkgfanibfkdbfaaGreatDoor.Ly7
namespace Go.Proofs.YtkgfanibfkdbfaaGreatDoor
open Go.Proofs.Tryz
section
open Go.Eng Go.Pc Go.Sx Go
open Go.Xp hiding B C9
open Go.Ty (Ty Vr Tok eqT tyV I7 A3 B8 O4 zeroK M8 D3)
open Go.Lx (encB encB_len lexO)
open Go.Ly (Rw P4 F9 mayP)
abbrev erR(b:Nat)(e:Int):Res:=.pt b (.cells [Value.int .i64 e].toArray 47 (0,0))
abbrev zP:Pr:=p0 0 [] A2 B0 B0 F2
theorem c6u(b0 b1:Nat)(h:List Res)(m:View):b0Z prog 49 [ptV b0,ptV b1] .returning m h h:=by
 refine a8M func49 rfl rfl ntmps49 Lb rfl Lb Lb (b5a rfl) rfl ?_;refine kA1 ?_;refine xG (b02 c3w Et rfl) ?_;refine kQ0 [0,1,2,7] ?_;refine wc ?_ ?_<;>intro c7
 cases c7;refine WC.skip (a8O (h2:=h) (.inr rfl) rfl Sb)
theorem c4q(b0 b1:Nat)(h:List Res)(m:View)(x:Pr)(k e:Int):b0Z prog 49 [ptV b0,ptV b1] (.panicking [{ v:=wrV e,recovered:=false }]) m (prR b0 x::erR b1 k::h) (prR b0 zP::erR b1 e::h):=by
 refine a8M func49 rfl rfl ntmps49 Lb rfl Lb Lb b5O (b0z _) ?_;refine kA1 ?_;refine xG (b0Q c3w Et rfl) ?_;refine kQ0 [0,1,2,7] ?_;refine wc ?_ ?_<;>intro c7
 refine kA1 ?_;refine xG (a4N b8K Et) ?_;refine kA3 ?_;refine xW λb3=>?_;refine kQ2 [0,1,3,4] ?_;refine kQ2 [0,1,3,14] ?_;refine wc ?_ ?_<;>intro c14
 cases c14;refine WC.skip (kp [0,1,3] ?_);refine jE ?_;refine WC.take (r:=.pt b0 _) De ?_;refine F3 [3] (.op 0 (.op 1 (.op 2 (.op 3 .nil)))) [4] _ [_] C4 (λ_ _ _ _ _ h=>absurd h.1 (by rintro(q|q)<;>cases q)) [] (by kernel_rfl) ?_;refine yG rfl (PO.build S9 rfl rfl rfl EvP.nil rfl) ?_;refine kA2 ?_;refine SR.store rfl rfl rfl Et Et rfl rfl rfl rfl Up ?_;refine SR.nil rfl rfl ?_;refine kA1 ?_;refine WL.nil (a8O (h2:=prR b0 zP::erR b1 e::h) (.inr rfl) rfl Sb);cases c7
theorem b6f(x y z:Res)(h:List Res):(x::y::z::h).Perm (z::y::x::h):=(List.Perm.swap _ _ _).trans (((List.Perm.swap _ _ _).cons _).trans (List.Perm.swap _ _ _))
abbrev c9y(m:View)(z:Pz)(h:List Res)(v:Value)(h':List Res):Prop:=
 ∃x bl j e,v=.tuple #[prV x,.int .i64 e]/\h'=psR z j::(bl++h)/\POk m bl x/\((e=0/\b3M z.R=.ok (stP x,j))\/(e≠0/\x=zP/\b3M z.R=.error (e,j)))
theorem c7H{m:View}(hg:Glob m){z:Pz}(hz:Pok m z)(h:List Res):CT prog 23 [ptV z.bp] (psR z 0::h) m (λv _ h'=>c9y m z h v h'):=by
 have hR:=hz.ok.1;have hrd:=hz.rd.mono Vl (List.nil_sublist h);have hq:b3M z.R=U6 (C7 z.R z.R.length 0 true 0) λx i=>match z.R[i]? with
  |none=>.ok (x,i)
  |some y=>.error (if(lexO y.text).2.2≠0 then(lexO y.text).2.2 else 110,i):=rfl
 have key:∀(n:Cx)(F:Fm)(e:Int)(j:Nat)(y:Int)(p:Pr)(b2 b3:Nat),n.ds=[b0X 49 [ptV b2,ptV b3]]->Go.Eng.look F 2=some (ptV b2)->Go.Eng.look F 3=some (ptV b3)->b3M z.R=.error (e,j)->∀a w,Fr n F a->St m (psR z j::erR b3 y::prR b2 p::h) w ->
  bodyPostD prog Tryz.f23 (RQ m (λv _ h'=>c9y m z h v h')) (.panic [{ v:=wrV e,recovered:=false }]) a w:=λn F e j y p b2 b3 hds e1 e2 hA a w ha hs=>
  c8U (P:=prog) (fn:=Tryz.f23) (h':=psR z j::h) hds call49 (c4q b2 b3 (psR z j::h) m p y e) rfl (G4 S9 rfl rfl e1 Me rfl) (a0z c00 rfl e2 Me rfl) Vl Sb
   ⟨zP,[],j,e,rfl,rfl,b9e _ _ (by decide),.inr ⟨c8n e j hA,rfl,hA⟩⟩ a w ha (hs.perm (b6f _ _ _ _))
 refine CT.bodyD call23 func23 rfl ntmps23 Lb rfl ?_;refine j0 ?_;refine xW λb2=>?_;refine xW λb3=>?_
 refine wn [0,2,3] ?_;refine jE ?_;refine a9v rfl λops hG=>?_;refine WY.po rfl (PO.makeFunc Evs.nil (E2 Et Et)) Lb ?_;refine WY.defer rfl Et ?_;refine kp [0,2,3] ?_;refine kA1 ?_;refine pD (psR z 0) ?_;refine A1 Ef (E3 Et Ek Ek) (c9J hg hz z.R.length 0 0 true _ (by omega) (by omega) (by decide)) Lb (λv hv hx=>?_) λv6 h6 hr6=>?_
 ·obtain⟨e,j,hx1,rfl,rfl⟩:=hx
  rw[hx1]at hq;exact key _ _ e j 0 zP b2 b3 rfl rfl rfl hq
 obtain⟨x6,j6,bl6,hM6,hj6,⟨p6,rfl,rfl,hO6⟩,rfl⟩:=hr6;refine WL.perm ((Mv.perm).cons _) ?_;rw[hM6,S1]at hq;refine kA1 ?_;refine wn [0,2,3] ?_;refine jE ?_;refine WC.noPan ?_;refine dS [] (.op 0 (.op 1 (.op 2 (.op 3 (.op 4 (.op 5 (.op 6 (.op 7 (.op 8 .nil))))))))) [9] C4 ?_;refine kA8 ?_;refine yG rfl (Y8 b7j Et) ?_;refine SR.nil rfl rfl ?_;refine kQ1 [0,2,3,16] ?_;refine wD ?_ ?_<;>intro c16
 obtain⟨y,hel⟩:=A5 (l:=z.R) (k:=j6) (by omega);rw[hel]at hq;dsimp only at hq;have hop:a1Z z.R y.depth j6=if(lexO y.text).2.2≠0 then .error ((lexO y.text).2.2,j6)else .ok (lexO y.text).1:=by unfold a1Z;rw[hel];simp only[ne_eq,not_true_eq_false,if_false]
 refine jE ?_;refine c1M [] (.op 0 (.op 1 (.op 2 (.op 3 (.op 4 (.op 5 (.op 6 (.op 7 (.op 8 (.op 9 (.op 10 (.op 11 .nil)))))))))))) [12] _ [] C4 (by kernel_rfl) ?_;refine kA9 ?_;refine yG rfl (D8 a0J.und a0J.size a0J.posz (Ev.tmp rfl) (Ev.tmp rfl) Rr rfl (q:=j6) (by omega)) ?_;refine kA2 ?_;refine SR.nil rfl rfl ?_;refine pD (psR z j6) ?_;refine A1 Ef (E2 Et Et) (a4L hg hz j6 y.depth _ (by omega)) Lb (λv hv hx=>?_) λv29 h29 hr29=>?_
 ·obtain⟨e,j,hx1,rfl,rfl⟩:=hx
  rw[hop]at hx1;split at hx1
  ·rename_i hl
   cases hx1;rw[if_pos hl]at hq;exact λa w ha hs=>key _ _ _ _ 0 p6 b2 b3 rfl rfl rfl hq a w ha (hs.sub Sb)
  ·cases hx1
 obtain⟨ts29,b29,a29,c29,hM29,rfl,hk29,rfl⟩:=hr29;refine kQ0 [2,3] ?_;refine A1 Ef Evs.nil (K9 _ _) Lb (λv hv hx=>?_) λv30 h30 hr30=>?_
 ·obtain⟨rfl,rfl⟩:=hx
  rw[hop]at hM29;split at hM29
  ·cases hM29
  ·rename_i hl
   rw[if_neg hl]at hq;exact λa w ha hs=>key _ _ _ _ 0 p6 b2 b3 rfl rfl rfl hq a w ha (hs.sub Sb)
 exact hr30.elim;rw[List.getElem?_eq_none (by omega)]at hq;dsimp only at hq;refine kQ0 [2,3] ?_;refine kQ3 [2,3] ?_;refine WC.ret (c9q (h':=psR z j6::(bl6++h)) (.inl rfl) rfl call49 (c6u _ _ _ _) rfl (G4 S9 rfl rfl rfl Me rfl) (a0z c00 rfl rfl Me rfl) Vl Sb ?_);exact⟨p6,bl6,j6,0,rfl,rfl,hO6,.inl ⟨rfl,hq⟩⟩
abbrev d0w(m:View)(R:List Rw)(h:List Res)(v:Value)(h':List Res):Prop:=
 ∃x bl,v=.tuple #[prV x,.int .i64 ((T7 R).2.1:Nat),.int .i64 (T7 R).2.2]/\stP x=(T7 R).1/\POk m bl x/\h'=bl++h
theorem b4O{m:View}(hg:Glob m)(ra:Option Addr)(rc:Nat)(R:List Rw)(h:List Res)(hr:Rd m [] ra R.length rc 3 (fl P4 R))(ht:∀x∈R,x.text.length<=140737488355328) :
 CT prog 9 [.slice ra R.length rc] h m (λv _ h'=>d0w m R h v h'):=by
 have hq:T7 R=if mayP R then(match b3M R with
  | .ok (x,_)=>(x,0,0)
  | .error (e,i)=>(prM 0 [] A2 [] [] F2 [] [] [] C3,i,e))else(prM 0 [] A2 [] [] F2 [] [] [] C3,0,2):=rfl
 refine cB [0,2,3,4,5,8,19] func9 λ_=>?_;refine xW λb2=>?_
 refine ZZ [2,1] ?_;refine xf (E1 Et) (Ly7.may_ct hg ra _ rc R _ (hr.mono Vl (List.nil_sublist _)) ht) ?_;refine Z1 ?_;refine wc ?_ ?_<;>intro c8
 have d8:mayP R=false:=by simpa using c8
 rw[if_neg (J8 d8)]at hq;refine Z4 ?_;refine WC.ret (b0V (h':=h) (.inl rfl) rfl (G4 S9 rfl rfl rfl Me rfl) (RV.tmp rfl) (RV.tmp rfl) Vl Sb ?_);exact⟨zP,[],by rw[hq];rfl,by rw[hq];exact X9 _,b9e _ _ (by decide),rfl⟩;have d8:mayP R=true:=by simpa using c8
 rw[if_pos d8]at hq;refine ZZ [0,2] ?_;refine xX λb12=>?_
 refine ZZ [1,1] ?_;refine pD (psR ⟨b12,ra,rc,R⟩ 0) ?_;refine xg (E1 Et) (c7H hg (z:=⟨b12,ra,rc,R⟩) (Pok.of hr d8) _) ?_;rintro _ _ ⟨x15,bl15,j15,e15,rfl,rfl,hO15,hA15⟩;refine WL.perm ((Mv.perm).cons _) ?_;refine ZZ [5,2,0] ?_;refine wN ?_ ?_<;>intro c19
 obtain⟨rfl,hA⟩:x15=zP/\b3M R=.error (e15,j15):=hA15.elim (λq=>absurd q.1 c19) λq=>q.2
 rw[hA]at hq;dsimp only at hq;refine jE ?_;refine WC.take (r:=.pt b2 _) De ?_;refine F3 [6] (.op 0 (.op 1 (.op 2 (.op 3 (.op 4 (.op 5 (.op 6 .nil))))))) [7,8] _ [_] C4 (λ_ _ _ _ _ h=>h) [5] (by kernel_rfl) ?_;refine yG rfl (PO.build S9 rfl rfl rfl EvP.nil rfl) ?_;refine kA5 ?_;refine SR.store rfl rfl rfl Et Et rfl rfl rfl rfl Up ?_;refine SR.nil rfl rfl ?_;refine Z2 ?_;refine WC.ret (b0V (h':=h) (.inl rfl) rfl (G4 S9 rfl rfl rfl Me rfl) (RV.tmp rfl) (RV.tmp rfl) Vl Sb ?_);exact⟨zP,[],by rw[hq];rfl,by rw[hq];exact X9 _,b9e _ _ (by decide),rfl⟩;have hA:b3M R=.ok (stP x15,j15):=hA15.elim (λq=>q.2) λq=>absurd c19 q.1
 rw[hA]at hq;dsimp only at hq;refine ZZ [0,4,0] ?_;refine WC.ret (b0V (h':=bl15++h) (.inl rfl) rfl (G4 S9 rfl rfl rfl Me rfl) (RV.tmp rfl) (RV.tmp rfl) Vl Sb ?_);exact⟨x15,bl15,by rw[hq];rfl,by rw[hq],hO15,rfl⟩
end
end Go.Proofs.YtkgfanibfkdbfaaGreatDoor
