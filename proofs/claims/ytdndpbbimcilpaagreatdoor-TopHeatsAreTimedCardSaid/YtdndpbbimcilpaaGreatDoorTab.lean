/- The program's tables,by program. -/
import Derived.Test.YtdndpbbimcilpaaGreatDoorTw
import Derived.Test.YtdndpbbimcilpaaGreatDoorArena
import Derived.Test.YtdndpbbimcilpaaGreatDoorProg
namespace Go.Proofs.YtdndpbbimcilpaaGreatDoor
open Go
def Dg.enc (x : Dg) : List Value:=[sV x.Key,iV x.Metres,iV x.Stroke,iV x.Course,iV x.Legs,iV x.Sex,iV x.Young,iV x.Old]
theorem Dg.enc_ok : Enc 8 Dg.enc:=⟨fun _=>rfl,fun _ u h=>by simp [Dg.enc] at h; rcases h with rfl | rfl | rfl | rfl | rfl | rfl | rfl | rfl <;> rfl⟩
def Pj.enc (x : Pj) : List Value:=[iV x.Size,iV x.Many,iV x.Reserves]
theorem Pj.enc_ok : Enc 3 Pj.enc:=⟨fun _=>rfl,fun _ u h=>by simp [Pj.enc] at h; rcases h with rfl | rfl | rfl <;> rfl⟩
def An.enc (x : An) : List Value:=[sV x.Site,iV x.No,iV x.At,iV x.Kind,sV x.Who,sV x.Club,sV x.Race,iV x.Time,iV x.Fault,sV x.Of,iV x.Other]
theorem An.enc_ok : Enc 11 An.enc:=⟨fun _=>rfl,fun _ u h=>by simp [An.enc] at h; rcases h with rfl | rfl | rfl | rfl | rfl | rfl | rfl | rfl | rfl | rfl | rfl <;> rfl⟩
def El.enc (x : El) : List Value:=[iV x.Low,iV x.High,iV x.Least,iV x.Circles]
theorem El.enc_ok : Enc 4 El.enc:=⟨fun _=>rfl,fun _ u h=>by simp [El.enc] at h; rcases h with rfl | rfl | rfl | rfl <;> rfl⟩
def Df.enc (x : Df) : List Value:=[sV x.Who,iV x.Heat,iV x.Lane]
theorem Df.enc_ok : Enc 3 Df.enc:=⟨fun _=>rfl,fun _ u h=>by simp [Df.enc] at h; rcases h with rfl | rfl | rfl <;> rfl⟩
def Dp.enc (x : Dp) : List Value:=[sV x.site_,iV x.no_]
theorem Dp.enc_ok : Enc 2 Dp.enc:=⟨fun _=>rfl,fun _ u h=>by simp [Dp.enc] at h; rcases h with rfl | rfl <;> rfl⟩
def Dh.enc (x : Dh) : List Value:=[sV x.Who,iV x.Time]
theorem Dh.enc_ok : Enc 2 Dh.enc:=⟨fun _=>rfl,fun _ u h=>by simp [Dh.enc] at h; rcases h with rfl | rfl <;> rfl⟩
def Ka.enc (x : Ka) : List Value:=[sV x.Key,iV x.Heats,iV x.Long,iV x.Gap,iV x.Break]
theorem Ka.enc_ok : Enc 5 Ka.enc:=⟨fun _=>rfl,fun _ u h=>by simp [Ka.enc] at h; rcases h with rfl | rfl | rfl | rfl | rfl <;> rfl⟩
def Py.enc (x : Py) : List Value:=[iV x.From,iV x.To]
theorem Py.enc_ok : Enc 2 Py.enc:=⟨fun _=>rfl,fun _ u h=>by simp [Py.enc] at h; rcases h with rfl | rfl <;> rfl⟩
def Ik.enc (x : Ik) : List Value:=[sV x.Item,iV x.Heat,iV x.Time.From,iV x.Time.To]
theorem Ik.enc_ok : Enc 4 Ik.enc:=⟨fun _=>rfl,fun _ u h=>by simp [Ik.enc] at h; rcases h with rfl | rfl | rfl | rfl <;> rfl⟩
def Ju.enc (x : Ju) : List Value:=[iV x.Year,iV x.Month,iV x.Day]
theorem Ju.enc_ok : Enc 3 Ju.enc:=⟨fun _=>rfl,fun _ u h=>by simp [Ju.enc] at h; rcases h with rfl | rfl | rfl <;> rfl⟩
def Od.enc (x : Od) : List Value:=[sV x.Race,iV x.Time]
theorem Od.enc_ok : Enc 2 Od.enc:=⟨fun _=>rfl,fun _ u h=>by simp [Od.enc] at h; rcases h with rfl | rfl <;> rfl⟩
structure R28 where
  mk ::
  (Points : RS)
  (Relay : Int)
  (Most : Int)
def R28.enc (x : R28) : List Value:=[x.Points.val,iV x.Relay,iV x.Most]
theorem R28.enc_ok : Enc 3 R28.enc:=⟨fun _=>rfl,fun x u h=>by
    simp only [R28.enc,List.mem_cons,List.not_mem_nil,or_false] at h
    rcases h with rfl | rfl | rfl
    · exact x.Points.property
    · exact rfl
    · exact rfl⟩
def Yy (φ : View) (x : Pi) (r : R28) : Prop:=∃ u1 : RS,r = ⟨u1,x.Relay,x.Most⟩ ∧ Slc φ 1 u1.val (x.Points.map eInt)
theorem Ug {φ ψ : View} (l : View.le φ ψ) (x : Pi) (r : R28) (h : Yy φ x r) : Yy ψ x r:=by
  obtain ⟨u1,e,h1⟩:=h
  exact ⟨u1,e,h1.mono l⟩
theorem rels_28 {φ ψ : View} (l : View.le φ ψ) {xs : List Pi} {rs : List R28} (h : Mx (Yy φ) xs rs) : Mx (Yy ψ) xs rs:=h.chg (Ug l)
structure R32 where
  mk ::
  (Races : RS)
  (Table : R28)
  (Final : Pj)
def R32.enc (x : R32) : List Value:=[x.Races.val] ++ R28.enc x.Table ++ [iV x.Final.Size,iV x.Final.Many,iV x.Final.Reserves]
theorem R32.enc_ok : Enc 7 R32.enc:=⟨fun x=>by simp [R32.enc,R28.enc_ok.len],fun x u h=>by
    simp only [R32.enc,List.mem_append,List.mem_cons,List.not_mem_nil,or_false] at h
    first
    | (rcases h with (h | h) | h
       · rcases h with rfl
         · exact x.Races.property
       · exact R28.enc_ok.one _ u h
       · rcases h with rfl | rfl | rfl
         · exact rfl
         · exact rfl
         · exact rfl)⟩
def Ru (φ : View) (x : Ln) (r : R32) : Prop:=∃ u1 : RS,∃ u2 : R28,r = ⟨u1,u2,x.Final⟩ ∧ Slc φ 8 u1.val (x.Races.map Dg.enc) ∧ Yy φ x.Table u2
theorem Uh {φ ψ : View} (l : View.le φ ψ) (x : Ln) (r : R32) (h : Ru φ x r) : Ru ψ x r:=by
  obtain ⟨u1,u2,e,h1,h2⟩:=h
  exact ⟨u1,u2,e,h1.mono l,Ug l _ _ h2⟩
theorem rels_32 {φ ψ : View} (l : View.le φ ψ) {xs : List Ln} {rs : List R32} (h : Mx (Ru φ) xs rs) : Mx (Ru ψ) xs rs:=h.chg (Uh l)
structure Zt where
  mk ::
  (p_ : R32)
  (deeds_ : RS)
def Zt.enc (x : Zt) : List Value:=R32.enc x.p_ ++ [x.deeds_.val]
theorem Zt.enc_ok : Enc 8 Zt.enc:=⟨fun x=>by simp [Zt.enc,R32.enc_ok.len],fun x u h=>by
    simp only [Zt.enc,List.mem_append,List.mem_cons,List.not_mem_nil,or_false] at h
    first
    | (rcases h with h | h
       · exact R32.enc_ok.one _ u h
       · rcases h with rfl
         · exact x.deeds_.property)⟩
def Vy (φ : View) (x : Ie) (r : Zt) : Prop:=∃ u1 : R32,∃ u2 : RS,r = ⟨u1,u2⟩ ∧ Ru φ x.p_ u1 ∧ Slc φ 11 u2.val (x.deeds_.map An.enc)
theorem Ow {φ ψ : View} (l : View.le φ ψ) (x : Ie) (r : Zt) (h : Vy φ x r) : Vy ψ x r:=by
  obtain ⟨u1,u2,e,h1,h2⟩:=h
  exact ⟨u1,u2,e,Uh l _ _ h1,h2.mono l⟩
theorem rels_139 {φ ψ : View} (l : View.le φ ψ) {xs : List Ie} {rs : List Zt} (h : Mx (Vy φ) xs rs) : Mx (Vy ψ) xs rs:=h.chg (Ow l)
def AK (φ : View) (x : (List ByteArray)) (r : RS) : Prop:=Slc φ 1 r.val (x.map Jw)
theorem GN {φ ψ : View} (l : View.le φ ψ) (x : (List ByteArray)) (r : RS) (h : AK φ x r) : AK ψ x r:=Slc.mono h l
theorem rels_45 {φ ψ : View} (l : View.le φ ψ) {xs : List (List ByteArray)} {rs : List RS} (h : Mx (AK φ) xs rs) : Mx (AK ψ) xs rs:=h.chg (GN l)
theorem Tryz.mixed : Tryz.prog.follows .mixedOrders = true:=by kernel_rfl
theorem Jr : SlT Tryz.prog 22 3 1 8:=Uo (z:=(iV 0)) Tryz.underlying22 Tryz.sizeOf3 (by kernel_rfl) rfl
theorem Sw : SlT Tryz.prog 26 40 8 72:=Uo (z:=(.agg #[sV Cx,iV 0,iV 0,iV 0,iV 0,iV 0,iV 0,iV 0])) Tryz.underlying26 Tryz.sizeOf40 (by kernel_rfl) rfl
theorem Ll : SlT Tryz.prog 34 93 11 128:=Uo (z:=(.agg #[sV Cx,iV 0,iV 0,iV 0,sV Cx,sV Cx,sV Cx,iV 0,iV 0,sV Cx,iV 0])) Tryz.underlying34 Tryz.sizeOf93 (by kernel_rfl) rfl
theorem Tf : SlT Tryz.prog 41 47 3 32:=Uo (z:=(.agg #[sV Cx,iV 0,iV 0])) Tryz.underlying41 Tryz.sizeOf47 (by kernel_rfl) rfl
theorem Nc : SlT Tryz.prog 45 9 1 16:=Uo (z:=(sV Cx)) Tryz.underlying45 Tryz.sizeOf9 (by kernel_rfl) rfl
theorem GO : SlT Tryz.prog 50 49 5 48:=Uo (z:=(.agg #[sV Cx,iV 0,iV 0,iV 0,iV 0])) Tryz.underlying50 Tryz.sizeOf49 (by kernel_rfl) rfl
theorem GP : SlT Tryz.prog 51 152 4 40:=Uo (z:=(.agg #[sV Cx,iV 0,iV 0,iV 0])) Tryz.underlying51 Tryz.sizeOf152 (by kernel_rfl) rfl
theorem Qk : SlT Tryz.prog 70 113 2 24:=Uo (z:=(.agg #[sV Cx,iV 0])) Tryz.underlying70 Tryz.sizeOf113 (by kernel_rfl) rfl
theorem EJ : SlT Tryz.prog 86 85 2 24:=Uo (z:=(.agg #[sV Cx,iV 0])) Tryz.underlying86 Tryz.sizeOf85 (by kernel_rfl) rfl
theorem Wx : SlT Tryz.prog 143 45 1 24:=Uo (z:=(.slice none 0 0)) Tryz.underlying143 Tryz.sizeOf45 (by kernel_rfl) rfl
theorem BT : Lp Tryz.prog 25 0 0:=⟨_,_,_,Tryz.underlying25,rfl,Tryz.sizeOf22,rfl,rfl⟩
theorem Zu : Lp Tryz.prog 25 1 1:=⟨_,_,_,Tryz.underlying25,rfl,Tryz.sizeOf3,rfl,rfl⟩
theorem Zv : Lp Tryz.prog 28 0 0:=⟨_,_,_,Tryz.underlying28,rfl,Tryz.sizeOf22,rfl,rfl⟩
theorem fa_28_1 : Lp Tryz.prog 28 1 1:=⟨_,_,_,Tryz.underlying28,rfl,Tryz.sizeOf3,rfl,rfl⟩
theorem fa_28_2 : Lp Tryz.prog 28 2 2:=⟨_,_,_,Tryz.underlying28,rfl,Tryz.sizeOf3,rfl,rfl⟩
theorem fa_30_0 : Lp Tryz.prog 30 0 0:=⟨_,_,_,Tryz.underlying30,rfl,Tryz.sizeOf3,rfl,rfl⟩
theorem fa_30_1 : Lp Tryz.prog 30 1 1:=⟨_,_,_,Tryz.underlying30,rfl,Tryz.sizeOf3,rfl,rfl⟩
theorem fa_30_2 : Lp Tryz.prog 30 2 2:=⟨_,_,_,Tryz.underlying30,rfl,Tryz.sizeOf3,rfl,rfl⟩
theorem Vz : Lp Tryz.prog 32 0 0:=⟨_,_,_,Tryz.underlying32,rfl,Tryz.sizeOf26,rfl,rfl⟩
theorem fa_32_1 : Lp Tryz.prog 32 1 1:=⟨_,_,_,Tryz.underlying32,rfl,Tryz.sizeOf28,rfl,rfl⟩
theorem fa_32_2 : Lp Tryz.prog 32 2 4:=⟨_,_,_,Tryz.underlying32,rfl,Tryz.sizeOf30,rfl,rfl⟩
theorem Wa : Lp Tryz.prog 38 0 0:=⟨_,_,_,Tryz.underlying38,rfl,Tryz.sizeOf3,rfl,rfl⟩
theorem Ui : Lp Tryz.prog 38 1 1:=⟨_,_,_,Tryz.underlying38,rfl,Tryz.sizeOf3,rfl,rfl⟩
theorem BU : Lp Tryz.prog 38 2 2:=⟨_,_,_,Tryz.underlying38,rfl,Tryz.sizeOf3,rfl,rfl⟩
theorem IX : Lp Tryz.prog 38 3 3:=⟨_,_,_,Tryz.underlying38,rfl,Tryz.sizeOf3,rfl,rfl⟩
theorem Xw : Lp Tryz.prog 40 0 0:=⟨_,_,_,Tryz.underlying40,rfl,Tryz.sizeOf9,rfl,rfl⟩
theorem FL : Lp Tryz.prog 40 1 1:=⟨_,_,_,Tryz.underlying40,rfl,Tryz.sizeOf3,rfl,rfl⟩
theorem FM : Lp Tryz.prog 40 2 2:=⟨_,_,_,Tryz.underlying40,rfl,Tryz.sizeOf3,rfl,rfl⟩
theorem BV : Lp Tryz.prog 40 3 3:=⟨_,_,_,Tryz.underlying40,rfl,Tryz.sizeOf3,rfl,rfl⟩
theorem BW : Lp Tryz.prog 40 4 4:=⟨_,_,_,Tryz.underlying40,rfl,Tryz.sizeOf3,rfl,rfl⟩
theorem fa_40_5 : Lp Tryz.prog 40 5 5:=⟨_,_,_,Tryz.underlying40,rfl,Tryz.sizeOf3,rfl,rfl⟩
theorem FN : Lp Tryz.prog 40 6 6:=⟨_,_,_,Tryz.underlying40,rfl,Tryz.sizeOf3,rfl,rfl⟩
theorem FO : Lp Tryz.prog 40 7 7:=⟨_,_,_,Tryz.underlying40,rfl,Tryz.sizeOf3,rfl,rfl⟩
theorem BX : Lp Tryz.prog 47 0 0:=⟨_,_,_,Tryz.underlying47,rfl,Tryz.sizeOf9,rfl,rfl⟩
theorem Xx : Lp Tryz.prog 47 1 1:=⟨_,_,_,Tryz.underlying47,rfl,Tryz.sizeOf3,rfl,rfl⟩
theorem FP : Lp Tryz.prog 47 2 2:=⟨_,_,_,Tryz.underlying47,rfl,Tryz.sizeOf3,rfl,rfl⟩
theorem BY : Lp Tryz.prog 49 0 0:=⟨_,_,_,Tryz.underlying49,rfl,Tryz.sizeOf9,rfl,rfl⟩
theorem FQ : Lp Tryz.prog 49 1 1:=⟨_,_,_,Tryz.underlying49,rfl,Tryz.sizeOf3,rfl,rfl⟩
theorem FR : Lp Tryz.prog 49 2 2:=⟨_,_,_,Tryz.underlying49,rfl,Tryz.sizeOf3,rfl,rfl⟩
theorem IY : Lp Tryz.prog 49 3 3:=⟨_,_,_,Tryz.underlying49,rfl,Tryz.sizeOf3,rfl,rfl⟩
theorem IZ : Lp Tryz.prog 49 4 4:=⟨_,_,_,Tryz.underlying49,rfl,Tryz.sizeOf3,rfl,rfl⟩
theorem Tk : Lp Tryz.prog 81 0 0:=⟨_,_,_,Tryz.underlying81,rfl,Tryz.sizeOf3,rfl,rfl⟩
theorem Zw : Lp Tryz.prog 81 1 1:=⟨_,_,_,Tryz.underlying81,rfl,Tryz.sizeOf3,rfl,rfl⟩
theorem FT : Lp Tryz.prog 81 2 2:=⟨_,_,_,Tryz.underlying81,rfl,Tryz.sizeOf3,rfl,rfl⟩
theorem BZ : Lp Tryz.prog 85 0 0:=⟨_,_,_,Tryz.underlying85,rfl,Tryz.sizeOf9,rfl,rfl⟩
theorem JA : Lp Tryz.prog 85 1 1:=⟨_,_,_,Tryz.underlying85,rfl,Tryz.sizeOf3,rfl,rfl⟩
theorem Oh : Lp Tryz.prog 93 0 0:=⟨_,_,_,Tryz.underlying93,rfl,Tryz.sizeOf9,rfl,rfl⟩
theorem Qc : Lp Tryz.prog 93 1 1:=⟨_,_,_,Tryz.underlying93,rfl,Tryz.sizeOf3,rfl,rfl⟩
theorem Qr : Lp Tryz.prog 93 2 2:=⟨_,_,_,Tryz.underlying93,rfl,Tryz.sizeOf3,rfl,rfl⟩
theorem Nh : Lp Tryz.prog 93 3 3:=⟨_,_,_,Tryz.underlying93,rfl,Tryz.sizeOf3,rfl,rfl⟩
theorem Nx : Lp Tryz.prog 93 4 4:=⟨_,_,_,Tryz.underlying93,rfl,Tryz.sizeOf9,rfl,rfl⟩
theorem Sq : Lp Tryz.prog 93 5 5:=⟨_,_,_,Tryz.underlying93,rfl,Tryz.sizeOf9,rfl,rfl⟩
theorem Qd : Lp Tryz.prog 93 6 6:=⟨_,_,_,Tryz.underlying93,rfl,Tryz.sizeOf9,rfl,rfl⟩
theorem Qs : Lp Tryz.prog 93 7 7:=⟨_,_,_,Tryz.underlying93,rfl,Tryz.sizeOf3,rfl,rfl⟩
theorem Uj : Lp Tryz.prog 93 8 8:=⟨_,_,_,Tryz.underlying93,rfl,Tryz.sizeOf3,rfl,rfl⟩
theorem Uk : Lp Tryz.prog 93 9 9:=⟨_,_,_,Tryz.underlying93,rfl,Tryz.sizeOf9,rfl,rfl⟩
theorem Rv : Lp Tryz.prog 93 10 10:=⟨_,_,_,Tryz.underlying93,rfl,Tryz.sizeOf3,rfl,rfl⟩
theorem Wy : Lp Tryz.prog 113 0 0:=⟨_,_,_,Tryz.underlying113,rfl,Tryz.sizeOf9,rfl,rfl⟩
theorem CL : Lp Tryz.prog 113 1 1:=⟨_,_,_,Tryz.underlying113,rfl,Tryz.sizeOf3,rfl,rfl⟩
theorem GQ : Lp Tryz.prog 139 0 0:=⟨_,_,_,Tryz.underlying139,rfl,Tryz.sizeOf32,rfl,rfl⟩
theorem CM : Lp Tryz.prog 139 1 7:=⟨_,_,_,Tryz.underlying139,rfl,Tryz.sizeOf34,rfl,rfl⟩
theorem LW : Lp Tryz.prog 150 1 1:=⟨_,_,_,Tryz.underlying150,rfl,Tryz.sizeOf3,rfl,rfl⟩
theorem LX : Lp Tryz.prog 152 2 2:=⟨_,_,_,Tryz.underlying152,rfl,Tryz.sizeOf150,rfl,rfl⟩
theorem eq_93 (dd : Nat) (x y : An) (w : World) : (Op.equalIn (dd + 2) 93 (.agg (An.enc x).toArray) (.agg (An.enc y).toArray)).run Tryz.prog w = .ok (decide (x = y)) w:=by
  refine Zp (dd:=dd + 1) (fs:=(Tryz.prog.fieldsOf 93).toList) (by kernel_rfl) rfl (by kernel_rfl) (?_ : _ = Result.ok (decide (x.Site = y.Site) && (decide (x.No = y.No) && (decide (x.At = y.At) && (decide (x.Kind = y.Kind) && (decide (x.Who = y.Who) && (decide (x.Club = y.Club) && (decide (x.Race = y.Race) && (decide (x.Time = y.Time) && (decide (x.Fault = y.Fault) && (decide (x.Of = y.Of) && (decide (x.Other = y.Other) && true))))))))))) w) (by cases x; cases y; simp [Bool.decide_and])
  simp only [Program.fieldsOf,Tryz.underlying93]
  exact (Oj (by decide) (Hs Tryz.isAgg9 rfl) (Hs Tryz.isAgg9 rfl) (Qw Tryz.underlying9) (Oj (by decide) (Hs Tryz.isAgg3 rfl) (Hs Tryz.isAgg3 rfl) (Pt Tryz.underlying3) (Oj (by decide) (Hs Tryz.isAgg3 rfl) (Hs Tryz.isAgg3 rfl) (Pt Tryz.underlying3) (Oj (by decide) (Hs Tryz.isAgg3 rfl) (Hs Tryz.isAgg3 rfl) (Pt Tryz.underlying3) (Oj (by decide) (Hs Tryz.isAgg9 rfl) (Hs Tryz.isAgg9 rfl) (Qw Tryz.underlying9) (Oj (by decide) (Hs Tryz.isAgg9 rfl) (Hs Tryz.isAgg9 rfl) (Qw Tryz.underlying9) (Oj (by decide) (Hs Tryz.isAgg9 rfl) (Hs Tryz.isAgg9 rfl) (Qw Tryz.underlying9) (Oj (by decide) (Hs Tryz.isAgg3 rfl) (Hs Tryz.isAgg3 rfl) (Pt Tryz.underlying3) (Oj (by decide) (Hs Tryz.isAgg3 rfl) (Hs Tryz.isAgg3 rfl) (Pt Tryz.underlying3) (Oj (by decide) (Hs Tryz.isAgg9 rfl) (Hs Tryz.isAgg9 rfl) (Qw Tryz.underlying9) (Oj (by decide) (Hs Tryz.isAgg3 rfl) (Hs Tryz.isAgg3 rfl) (Pt Tryz.underlying3) IQ)))))))))))
theorem rn_eql_93 {a : Act} {w : World} {x y : Operand} {u ty : TypeId} {m n : An} (hx : a.eval x = .agg (An.enc m).toArray) (hy : a.eval y = .agg (An.enc n).toArray) : Rn Tryz.prog a w (.binOp .eql 93 x y u) ty (.bool (decide (m = n))) :=
  IR 2 (by kernel_rfl) (fun w=>eq_93 _ m n w) rfl hx hy
theorem EK {a : Act} {w : World} {x y : Operand} {u ty : TypeId} {m n : An} (hx : a.eval x = .agg (An.enc m).toArray) (hy : a.eval y = .agg (An.enc n).toArray) : Rn Tryz.prog a w (.binOp .neq 93 x y u) ty (.bool (!decide (m = n))) :=
  IS 2 (by kernel_rfl) (fun w=>eq_93 _ m n w) rfl hx hy
theorem HV (dd : Nat) (x y : Dp) (w : World) : (Op.equalIn (dd + 2) 166 (.agg (Dp.enc x).toArray) (.agg (Dp.enc y).toArray)).run Tryz.prog w = .ok (decide (x = y)) w:=by
  refine Zp (dd:=dd + 1) (fs:=(Tryz.prog.fieldsOf 166).toList) (by kernel_rfl) rfl (by kernel_rfl) (?_ : _ = Result.ok (decide (x.site_ = y.site_) && (decide (x.no_ = y.no_) && true)) w) (by cases x; cases y; simp [Bool.decide_and])
  simp only [Program.fieldsOf,Tryz.underlying166]
  exact (Oj (by decide) (Hs Tryz.isAgg9 rfl) (Hs Tryz.isAgg9 rfl) (Qw Tryz.underlying9) (Oj (by decide) (Hs Tryz.isAgg3 rfl) (Hs Tryz.isAgg3 rfl) (Pt Tryz.underlying3) IQ))
theorem rn_eql_166 {a : Act} {w : World} {x y : Operand} {u ty : TypeId} {m n : Dp} (hx : a.eval x = .agg (Dp.enc m).toArray) (hy : a.eval y = .agg (Dp.enc n).toArray) : Rn Tryz.prog a w (.binOp .eql 166 x y u) ty (.bool (decide (m = n))) :=
  IR 2 (by kernel_rfl) (fun w=>HV _ m n w) rfl hx hy
theorem rn_neq_166 {a : Act} {w : World} {x y : Operand} {u ty : TypeId} {m n : Dp} (hx : a.eval x = .agg (Dp.enc m).toArray) (hy : a.eval y = .agg (Dp.enc n).toArray) : Rn Tryz.prog a w (.binOp .neq 166 x y u) ty (.bool (!decide (m = n))) :=
  IS 2 (by kernel_rfl) (fun w=>HV _ m n w) rfl hx hy
theorem Zx : DF Tryz.prog 166 (fun x=>Value.agg (Dp.enc x).toArray) :=
  LP 2 rfl Tryz.underlying166 (fun em x w=>chk_agg Tryz.underlying166 (by
    intro f hf _
    simp only [List.mem_cons,List.not_mem_nil,or_false] at hf
    rcases hf with rfl | rfl
    · exact ⟨_,fun w=>Hs Tryz.isAgg9 rfl,fun w=>chk_str Tryz.underlying9⟩
    · exact ⟨_,fun w=>Hs Tryz.isAgg3 rfl,fun w=>chk_int Tryz.underlying3⟩)) HV (fun x=>by simp [Instr.sameBits,Dp.enc,KG])
theorem bt_25 : Wr Tryz.prog 25 (.agg #[.slice none 0 0,iV 0]) [(0,1),(1,1)]:=⟨_,Tryz.underlying25,Tryz.zeroValue25,fun _=>by kernel_rfl⟩
theorem bt_28 : Wr Tryz.prog 28 (.agg #[.slice none 0 0,iV 0,iV 0]) [(0,1),(1,1),(2,1)]:=⟨_,Tryz.underlying28,Tryz.zeroValue28,fun _=>by kernel_rfl⟩
theorem bt_30 : Wr Tryz.prog 30 (.agg #[iV 0,iV 0,iV 0]) [(0,1),(1,1),(2,1)]:=⟨_,Tryz.underlying30,Tryz.zeroValue30,fun _=>by kernel_rfl⟩
theorem bt_32 : Wr Tryz.prog 32 (.agg #[.slice none 0 0,.slice none 0 0,iV 0,iV 0,iV 0,iV 0,iV 0]) [(0,1),(1,3),(4,3)]:=⟨_,Tryz.underlying32,Tryz.zeroValue32,fun _=>by kernel_rfl⟩
theorem bt_38 : Wr Tryz.prog 38 (.agg #[iV 0,iV 0,iV 0,iV 0]) [(0,1),(1,1),(2,1),(3,1)]:=⟨_,Tryz.underlying38,Tryz.zeroValue38,fun _=>by kernel_rfl⟩
theorem JB : Wr Tryz.prog 40 (.agg #[sV Cx,iV 0,iV 0,iV 0,iV 0,iV 0,iV 0,iV 0]) [(0,1),(1,1),(2,1),(3,1),(4,1),(5,1),(6,1),(7,1)]:=⟨_,Tryz.underlying40,Tryz.zeroValue40,fun _=>by kernel_rfl⟩
theorem bt_47 : Wr Tryz.prog 47 (.agg #[sV Cx,iV 0,iV 0]) [(0,1),(1,1),(2,1)]:=⟨_,Tryz.underlying47,Tryz.zeroValue47,fun _=>by kernel_rfl⟩
theorem bt_49 : Wr Tryz.prog 49 (.agg #[sV Cx,iV 0,iV 0,iV 0,iV 0]) [(0,1),(1,1),(2,1),(3,1),(4,1)]:=⟨_,Tryz.underlying49,Tryz.zeroValue49,fun _=>by kernel_rfl⟩
theorem bt_81 : Wr Tryz.prog 81 (.agg #[iV 0,iV 0,iV 0]) [(0,1),(1,1),(2,1)]:=⟨_,Tryz.underlying81,Tryz.zeroValue81,fun _=>by kernel_rfl⟩
theorem bt_85 : Wr Tryz.prog 85 (.agg #[sV Cx,iV 0]) [(0,1),(1,1)]:=⟨_,Tryz.underlying85,Tryz.zeroValue85,fun _=>by kernel_rfl⟩
theorem LY : Wr Tryz.prog 93 (.agg #[sV Cx,iV 0,iV 0,iV 0,sV Cx,sV Cx,sV Cx,iV 0,iV 0,sV Cx,iV 0]) [(0,1),(1,1),(2,1),(3,1),(4,1),(5,1),(6,1),(7,1),(8,1),(9,1),(10,1)]:=⟨_,Tryz.underlying93,Tryz.zeroValue93,fun _=>by kernel_rfl⟩
theorem bt_113 : Wr Tryz.prog 113 (.agg #[sV Cx,iV 0]) [(0,1),(1,1)]:=⟨_,Tryz.underlying113,Tryz.zeroValue113,fun _=>by kernel_rfl⟩
theorem bt_139 : Wr Tryz.prog 139 (.agg #[.slice none 0 0,.slice none 0 0,iV 0,iV 0,iV 0,iV 0,iV 0,.slice none 0 0]) [(0,7),(7,1)]:=⟨_,Tryz.underlying139,Tryz.zeroValue139,fun _=>by kernel_rfl⟩
theorem bt_150 : Wr Tryz.prog 150 (.agg #[iV 0,iV 0]) [(0,1),(1,1)]:=⟨_,Tryz.underlying150,Tryz.zeroValue150,fun _=>by kernel_rfl⟩
theorem bt_152 : Wr Tryz.prog 152 (.agg #[sV Cx,iV 0,iV 0,iV 0]) [(0,1),(1,1),(2,2)]:=⟨_,Tryz.underlying152,Tryz.zeroValue152,fun _=>by kernel_rfl⟩
theorem LZ : Wr Tryz.prog 166 (.agg #[sV Cx,iV 0]) [(0,1),(1,1)]:=⟨_,Tryz.underlying166,Tryz.zeroValue166,fun _=>by kernel_rfl⟩
end Go.Proofs.YtdndpbbimcilpaaGreatDoor
