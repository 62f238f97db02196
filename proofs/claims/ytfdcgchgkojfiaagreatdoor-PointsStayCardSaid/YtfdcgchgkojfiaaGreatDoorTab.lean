/- The program's tables,by program. -/
import Derived.Test.YtfdcgchgkojfiaaGreatDoorTw
import Derived.Test.YtfdcgchgkojfiaaGreatDoorArena
import Derived.Test.YtfdcgchgkojfiaaGreatDoorProg
namespace Go.Proofs.YtfdcgchgkojfiaaGreatDoor
open Go
def An.enc (x : An) : List Value:=[sV x.Race,sV x.Who,sV x.Club,iV x.Rank,bV x.Relay]
theorem An.enc_ok : Enc 5 An.enc:=⟨fun _=>rfl,fun _ u h=>by simp [An.enc] at h; rcases h with rfl | rfl | rfl | rfl | rfl <;> rfl⟩
def Dn.enc (x : Dn) : List Value:=[sV x.Race,sV x.Who,iV x.Time]
theorem Dn.enc_ok : Enc 3 Dn.enc:=⟨fun _=>rfl,fun _ u h=>by simp [Dn.enc] at h; rcases h with rfl | rfl | rfl <;> rfl⟩
def Ct.enc (x : Ct) : List Value:=[sV x.race_,sV x.who_]
theorem Ct.enc_ok : Enc 2 Ct.enc:=⟨fun _=>rfl,fun _ u h=>by simp [Ct.enc] at h; rcases h with rfl | rfl <;> rfl⟩
def Cu.enc (x : Cu) : List Value:=[iV x.Num,iV x.Den]
theorem Cu.enc_ok : Enc 2 Cu.enc:=⟨fun _=>rfl,fun _ u h=>by simp [Cu.enc] at h; rcases h with rfl | rfl <;> rfl⟩
def Cv.enc (x : Cv) : List Value:=[sV x.Key,iV x.Points.Num,iV x.Points.Den]
theorem Cv.enc_ok : Enc 3 Cv.enc:=⟨fun _=>rfl,fun _ u h=>by simp [Cv.enc] at h; rcases h with rfl | rfl | rfl <;> rfl⟩
def Cs.enc (x : Cs) : List Value:=[sV x.x_.Race,sV x.x_.Who,sV x.x_.Club,iV x.x_.Rank,bV x.x_.Relay,iV x.points_.Num,iV x.points_.Den]
theorem Cs.enc_ok : Enc 7 Cs.enc:=⟨fun _=>rfl,fun _ u h=>by simp [Cs.enc] at h; rcases h with rfl | rfl | rfl | rfl | rfl | rfl | rfl <;> rfl⟩
def Jr.enc (x : Jr) : List Value:=[sV x.Race,iV x.Time]
theorem Jr.enc_ok : Enc 2 Jr.enc:=⟨fun _=>rfl,fun _ u h=>by simp [Jr.enc] at h; rcases h with rfl | rfl <;> rfl⟩
def Iz.enc (x : Iz) : List Value:=[iV x.Year,iV x.Month,iV x.Day]
theorem Iz.enc_ok : Enc 3 Iz.enc:=⟨fun _=>rfl,fun _ u h=>by simp [Iz.enc] at h; rcases h with rfl | rfl | rfl <;> rfl⟩
def Js.enc (x : Js) : List Value:=[sV x.Key,iV x.Heats,iV x.Long,iV x.Gap,iV x.Break]
theorem Js.enc_ok : Enc 5 Js.enc:=⟨fun _=>rfl,fun _ u h=>by simp [Js.enc] at h; rcases h with rfl | rfl | rfl | rfl | rfl <;> rfl⟩
def Nu.enc (x : Nu) : List Value:=[iV x.From,iV x.To]
theorem Nu.enc_ok : Enc 2 Nu.enc:=⟨fun _=>rfl,fun _ u h=>by simp [Nu.enc] at h; rcases h with rfl | rfl <;> rfl⟩
def Hr.enc (x : Hr) : List Value:=[sV x.Item,iV x.Heat,iV x.Time.From,iV x.Time.To]
theorem Hr.enc_ok : Enc 4 Hr.enc:=⟨fun _=>rfl,fun _ u h=>by simp [Hr.enc] at h; rcases h with rfl | rfl | rfl | rfl <;> rfl⟩
def Hi.enc (x : Hi) : List Value:=[iV x.At,iV x.Kind,sV x.Id,sV x.Who,sV x.Club,sV x.Race,iV x.Age,iV x.Time]
theorem Hi.enc_ok : Enc 8 Hi.enc:=⟨fun _=>rfl,fun _ u h=>by simp [Hi.enc] at h; rcases h with rfl | rfl | rfl | rfl | rfl | rfl | rfl | rfl <;> rfl⟩
structure R27 where
  mk ::
  (Points : RS)
  (Relay : Int)
  (Most : Int)
def R27.enc (x : R27) : List Value:=[x.Points.val,iV x.Relay,iV x.Most]
theorem R27.enc_ok : Enc 3 R27.enc:=⟨fun _=>rfl,fun x u h=>by
    simp only [R27.enc,List.mem_cons,List.not_mem_nil,or_false] at h
    rcases h with rfl | rfl | rfl
    · exact x.Points.property
    · exact rfl
    · exact rfl⟩
def Qe (φ : View) (x : Hx) (r : R27) : Prop:=∃ u1 : RS,r = ⟨u1,x.Relay,x.Most⟩ ∧ Slc φ 1 u1.val (x.Points.map eInt)
theorem Rh {φ ψ : View} (l : View.le φ ψ) (x : Hx) (r : R27) (h : Qe φ x r) : Qe ψ x r:=by
  obtain ⟨u1,e,h1⟩:=h
  exact ⟨u1,e,h1.mono l⟩
theorem rels_27 {φ ψ : View} (l : View.le φ ψ) {xs : List Hx} {rs : List R27} (h : Kd (Qe φ) xs rs) : Kd (Qe ψ) xs rs:=h.chg (Rh l)
def Tt (φ : View) (x : (List An)) (r : RS) : Prop:=Slc φ 5 r.val (x.map An.enc)
theorem CO {φ ψ : View} (l : View.le φ ψ) (x : (List An)) (r : RS) (h : Tt φ x r) : Tt ψ x r:=Slc.mono h l
theorem Ye {φ ψ : View} (l : View.le φ ψ) {xs : List (List An)} {rs : List RS} (h : Kd (Tt φ) xs rs) : Kd (Tt ψ) xs rs:=h.chg (CO l)
structure R91 where
  mk ::
  (Key : ByteArray)
  (Race : ByteArray)
  (Clubs : RS)
  (Young : Int)
  (Old : Int)
def R91.enc (x : R91) : List Value:=[sV x.Key,sV x.Race,x.Clubs.val,iV x.Young,iV x.Old]
theorem R91.enc_ok : Enc 5 R91.enc:=⟨fun _=>rfl,fun x u h=>by
    simp only [R91.enc,List.mem_cons,List.not_mem_nil,or_false] at h
    rcases h with rfl | rfl | rfl | rfl | rfl
    · exact rfl
    · exact rfl
    · exact x.Clubs.property
    · exact rfl
    · exact rfl⟩
def Tu (φ : View) (x : Od) (r : R91) : Prop:=∃ u1 : RS,r = ⟨x.Key,x.Race,u1,x.Young,x.Old⟩ ∧ Slc φ 1 u1.val (x.Clubs.map Tp)
theorem CP {φ ψ : View} (l : View.le φ ψ) (x : Od) (r : R91) (h : Tu φ x r) : Tu ψ x r:=by
  obtain ⟨u1,e,h1⟩:=h
  exact ⟨u1,e,h1.mono l⟩
theorem EP {φ ψ : View} (l : View.le φ ψ) {xs : List Od} {rs : List R91} (h : Kd (Tu φ) xs rs) : Kd (Tu ψ) xs rs:=h.chg (CP l)
theorem Tryz.mixed : Tryz.prog.follows .mixedOrders = true:=by kernel_rfl
theorem Ka : SlT Tryz.prog 22 3 1 8:=Qd (z:=(iV 0)) Tryz.underlying22 Tryz.sizeOf3 (by kernel_rfl) rfl
theorem Ja : SlT Tryz.prog 29 49 5 64:=Qd (z:=(.agg #[sV Cy,sV Cy,sV Cy,iV 0,bV false])) Tryz.underlying29 Tryz.sizeOf49 (by kernel_rfl) rfl
theorem Tv : SlT Tryz.prog 31 52 3 40:=Qd (z:=(.agg #[sV Cy,sV Cy,iV 0])) Tryz.underlying31 Tryz.sizeOf52 (by kernel_rfl) rfl
theorem Tw : SlT Tryz.prog 33 41 3 32:=Qd (z:=(.agg #[sV Cy,iV 0,iV 0])) Tryz.underlying33 Tryz.sizeOf41 (by kernel_rfl) rfl
theorem AH : SlT Tryz.prog 45 44 2 24:=Qd (z:=(.agg #[sV Cy,iV 0])) Tryz.underlying45 Tryz.sizeOf44 (by kernel_rfl) rfl
theorem Rb : SlT Tryz.prog 57 9 1 16:=Qd (z:=(sV Cy)) Tryz.underlying57 Tryz.sizeOf9 (by kernel_rfl) rfl
theorem Vd : SlT Tryz.prog 63 66 7 80:=Qd (z:=(.agg #[sV Cy,sV Cy,sV Cy,iV 0,bV false,iV 0,iV 0])) Tryz.underlying63 Tryz.sizeOf66 (by kernel_rfl) rfl
theorem CQ : SlT Tryz.prog 86 85 5 48:=Qd (z:=(.agg #[sV Cy,iV 0,iV 0,iV 0,iV 0])) Tryz.underlying86 Tryz.sizeOf85 (by kernel_rfl) rfl
theorem AI : SlT Tryz.prog 92 91 5 72:=Qd (z:=(.agg #[sV Cy,sV Cy,.slice none 0 0,iV 0,iV 0])) Tryz.underlying92 Tryz.sizeOf91 (by kernel_rfl) rfl
theorem Ss : SlT Tryz.prog 104 29 1 24:=Qd (z:=(.slice none 0 0)) Tryz.underlying104 Tryz.sizeOf29 (by kernel_rfl) rfl
theorem BL : SlT Tryz.prog 116 150 4 40:=Qd (z:=(.agg #[sV Cy,iV 0,iV 0,iV 0])) Tryz.underlying116 Tryz.sizeOf150 (by kernel_rfl) rfl
theorem IB : SlT Tryz.prog 123 34 1 8:=Qd (z:=(iV 0)) Tryz.underlying123 Tryz.sizeOf34 (by kernel_rfl) rfl
theorem Yf : Ly Tryz.prog 25 0 0:=⟨_,_,_,Tryz.underlying25,rfl,Tryz.sizeOf22,rfl,rfl⟩
theorem Wg : Ly Tryz.prog 25 1 1:=⟨_,_,_,Tryz.underlying25,rfl,Tryz.sizeOf3,rfl,rfl⟩
theorem Qo : Ly Tryz.prog 27 0 0:=⟨_,_,_,Tryz.underlying27,rfl,Tryz.sizeOf22,rfl,rfl⟩
theorem EQ : Ly Tryz.prog 27 1 1:=⟨_,_,_,Tryz.underlying27,rfl,Tryz.sizeOf3,rfl,rfl⟩
theorem BM : Ly Tryz.prog 27 2 2:=⟨_,_,_,Tryz.underlying27,rfl,Tryz.sizeOf3,rfl,rfl⟩
theorem ER : Ly Tryz.prog 39 0 0:=⟨_,_,_,Tryz.underlying39,rfl,Tryz.sizeOf3,rfl,rfl⟩
theorem Yg : Ly Tryz.prog 39 1 1:=⟨_,_,_,Tryz.underlying39,rfl,Tryz.sizeOf3,rfl,rfl⟩
theorem ES : Ly Tryz.prog 41 0 0:=⟨_,_,_,Tryz.underlying41,rfl,Tryz.sizeOf9,rfl,rfl⟩
theorem Yh : Ly Tryz.prog 44 0 0:=⟨_,_,_,Tryz.underlying44,rfl,Tryz.sizeOf9,rfl,rfl⟩
theorem ET : Ly Tryz.prog 44 1 1:=⟨_,_,_,Tryz.underlying44,rfl,Tryz.sizeOf3,rfl,rfl⟩
theorem Ol : Ly Tryz.prog 49 0 0:=⟨_,_,_,Tryz.underlying49,rfl,Tryz.sizeOf9,rfl,rfl⟩
theorem Ri : Ly Tryz.prog 49 1 1:=⟨_,_,_,Tryz.underlying49,rfl,Tryz.sizeOf9,rfl,rfl⟩
theorem Qp : Ly Tryz.prog 49 2 2:=⟨_,_,_,Tryz.underlying49,rfl,Tryz.sizeOf9,rfl,rfl⟩
theorem Jy : Ly Tryz.prog 49 3 3:=⟨_,_,_,Tryz.underlying49,rfl,Tryz.sizeOf3,rfl,rfl⟩
theorem BN : Ly Tryz.prog 49 4 4:=⟨_,_,_,Tryz.underlying49,rfl,Tryz.sizeOf4,rfl,rfl⟩
theorem St : Ly Tryz.prog 52 0 0:=⟨_,_,_,Tryz.underlying52,rfl,Tryz.sizeOf9,rfl,rfl⟩
theorem Su : Ly Tryz.prog 52 1 1:=⟨_,_,_,Tryz.underlying52,rfl,Tryz.sizeOf9,rfl,rfl⟩
theorem Up : Ly Tryz.prog 52 2 2:=⟨_,_,_,Tryz.underlying52,rfl,Tryz.sizeOf3,rfl,rfl⟩
theorem Uq : Ly Tryz.prog 66 0 0:=⟨_,_,_,Tryz.underlying66,rfl,Tryz.sizeOf49,rfl,rfl⟩
theorem BO : Ly Tryz.prog 66 1 5:=⟨_,_,_,Tryz.underlying66,rfl,Tryz.sizeOf39,rfl,rfl⟩
theorem EU : Ly Tryz.prog 77 1 1:=⟨_,_,_,Tryz.underlying77,rfl,Tryz.sizeOf9,rfl,rfl⟩
theorem Qq : Ly Tryz.prog 82 0 0:=⟨_,_,_,Tryz.underlying82,rfl,Tryz.sizeOf3,rfl,rfl⟩
theorem Wh : Ly Tryz.prog 82 1 1:=⟨_,_,_,Tryz.underlying82,rfl,Tryz.sizeOf3,rfl,rfl⟩
theorem BP : Ly Tryz.prog 82 2 2:=⟨_,_,_,Tryz.underlying82,rfl,Tryz.sizeOf3,rfl,rfl⟩
theorem Yi : Ly Tryz.prog 85 0 0:=⟨_,_,_,Tryz.underlying85,rfl,Tryz.sizeOf9,rfl,rfl⟩
theorem BQ : Ly Tryz.prog 85 1 1:=⟨_,_,_,Tryz.underlying85,rfl,Tryz.sizeOf3,rfl,rfl⟩
theorem BR : Ly Tryz.prog 85 2 2:=⟨_,_,_,Tryz.underlying85,rfl,Tryz.sizeOf3,rfl,rfl⟩
theorem EV : Ly Tryz.prog 85 3 3:=⟨_,_,_,Tryz.underlying85,rfl,Tryz.sizeOf3,rfl,rfl⟩
theorem EW : Ly Tryz.prog 85 4 4:=⟨_,_,_,Tryz.underlying85,rfl,Tryz.sizeOf3,rfl,rfl⟩
theorem Yj : Ly Tryz.prog 91 0 0:=⟨_,_,_,Tryz.underlying91,rfl,Tryz.sizeOf9,rfl,rfl⟩
theorem EX : Ly Tryz.prog 91 1 1:=⟨_,_,_,Tryz.underlying91,rfl,Tryz.sizeOf9,rfl,rfl⟩
theorem Wi : Ly Tryz.prog 91 2 2:=⟨_,_,_,Tryz.underlying91,rfl,Tryz.sizeOf57,rfl,rfl⟩
theorem BS : Ly Tryz.prog 91 3 3:=⟨_,_,_,Tryz.underlying91,rfl,Tryz.sizeOf3,rfl,rfl⟩
theorem BT : Ly Tryz.prog 91 4 4:=⟨_,_,_,Tryz.underlying91,rfl,Tryz.sizeOf3,rfl,rfl⟩
theorem EY : Ly Tryz.prog 94 0 0:=⟨_,_,_,Tryz.underlying94,rfl,Tryz.sizeOf3,rfl,rfl⟩
theorem Yk : Ly Tryz.prog 94 1 1:=⟨_,_,_,Tryz.underlying94,rfl,Tryz.sizeOf3,rfl,rfl⟩
theorem EZ : Ly Tryz.prog 94 2 2:=⟨_,_,_,Tryz.underlying94,rfl,Tryz.sizeOf9,rfl,rfl⟩
theorem fa_94_3 : Ly Tryz.prog 94 3 3:=⟨_,_,_,Tryz.underlying94,rfl,Tryz.sizeOf9,rfl,rfl⟩
theorem BU : Ly Tryz.prog 94 4 4:=⟨_,_,_,Tryz.underlying94,rfl,Tryz.sizeOf9,rfl,rfl⟩
theorem FA : Ly Tryz.prog 94 5 5:=⟨_,_,_,Tryz.underlying94,rfl,Tryz.sizeOf9,rfl,rfl⟩
theorem FB : Ly Tryz.prog 94 6 6:=⟨_,_,_,Tryz.underlying94,rfl,Tryz.sizeOf3,rfl,rfl⟩
theorem fa_94_7 : Ly Tryz.prog 94 7 7:=⟨_,_,_,Tryz.underlying94,rfl,Tryz.sizeOf3,rfl,rfl⟩
theorem IC : Ly Tryz.prog 148 1 1:=⟨_,_,_,Tryz.underlying148,rfl,Tryz.sizeOf3,rfl,rfl⟩
theorem ID : Ly Tryz.prog 150 2 2:=⟨_,_,_,Tryz.underlying150,rfl,Tryz.sizeOf148,rfl,rfl⟩
theorem eq_49 (dd : Nat) (x y : An) (w : World) : (Op.equalIn (dd + 2) 49 (.agg (An.enc x).toArray) (.agg (An.enc y).toArray)).run Tryz.prog w = .ok (decide (x = y)) w:=by
  refine Qm (dd:=dd + 1) (fs:=(Tryz.prog.fieldsOf 49).toList) (by kernel_rfl) rfl (by kernel_rfl) (?_ : _ = Result.ok (decide (x.Race = y.Race) && (decide (x.Who = y.Who) && (decide (x.Club = y.Club) && (decide (x.Rank = y.Rank) && (decide (x.Relay = y.Relay) && true))))) w) (by cases x; cases y; simp [Bool.decide_and])
  simp only [Program.fieldsOf,Tryz.underlying49]
  exact (Kk (by decide) (Ev Tryz.isAgg9 rfl) (Ev Tryz.isAgg9 rfl) (Ko Tryz.underlying9) (Kk (by decide) (Ev Tryz.isAgg9 rfl) (Ev Tryz.isAgg9 rfl) (Ko Tryz.underlying9) (Kk (by decide) (Ev Tryz.isAgg9 rfl) (Ev Tryz.isAgg9 rfl) (Ko Tryz.underlying9) (Kk (by decide) (Ev Tryz.isAgg3 rfl) (Ev Tryz.isAgg3 rfl) (Ov Tryz.underlying3) (Kk (by decide) (Ev Tryz.isAgg4 rfl) (Ev Tryz.isAgg4 rfl) (BF Tryz.underlying4) Yb)))))
theorem rn_eql_49 {a : Act} {w : World} {x y : Operand} {u ty : TypeId} {m n : An} (hx : a.eval x = .agg (An.enc m).toArray) (hy : a.eval y = .agg (An.enc n).toArray) : Rn Tryz.prog a w (.binOp .eql 49 x y u) ty (.bool (decide (m = n))) :=
  Yc 2 (by kernel_rfl) (fun w=>eq_49 _ m n w) rfl hx hy
theorem GO {a : Act} {w : World} {x y : Operand} {u ty : TypeId} {m n : An} (hx : a.eval x = .agg (An.enc m).toArray) (hy : a.eval y = .agg (An.enc n).toArray) : Rn Tryz.prog a w (.binOp .neq 49 x y u) ty (.bool (!decide (m = n))) :=
  Yd 2 (by kernel_rfl) (fun w=>eq_49 _ m n w) rfl hx hy
theorem eq_52 (dd : Nat) (x y : Dn) (w : World) : (Op.equalIn (dd + 2) 52 (.agg (Dn.enc x).toArray) (.agg (Dn.enc y).toArray)).run Tryz.prog w = .ok (decide (x = y)) w:=by
  refine Qm (dd:=dd + 1) (fs:=(Tryz.prog.fieldsOf 52).toList) (by kernel_rfl) rfl (by kernel_rfl) (?_ : _ = Result.ok (decide (x.Race = y.Race) && (decide (x.Who = y.Who) && (decide (x.Time = y.Time) && true))) w) (by cases x; cases y; simp [Bool.decide_and])
  simp only [Program.fieldsOf,Tryz.underlying52]
  exact (Kk (by decide) (Ev Tryz.isAgg9 rfl) (Ev Tryz.isAgg9 rfl) (Ko Tryz.underlying9) (Kk (by decide) (Ev Tryz.isAgg9 rfl) (Ev Tryz.isAgg9 rfl) (Ko Tryz.underlying9) (Kk (by decide) (Ev Tryz.isAgg3 rfl) (Ev Tryz.isAgg3 rfl) (Ov Tryz.underlying3) Yb)))
theorem rn_eql_52 {a : Act} {w : World} {x y : Operand} {u ty : TypeId} {m n : Dn} (hx : a.eval x = .agg (Dn.enc m).toArray) (hy : a.eval y = .agg (Dn.enc n).toArray) : Rn Tryz.prog a w (.binOp .eql 52 x y u) ty (.bool (decide (m = n))) :=
  Yc 2 (by kernel_rfl) (fun w=>eq_52 _ m n w) rfl hx hy
theorem GP {a : Act} {w : World} {x y : Operand} {u ty : TypeId} {m n : Dn} (hx : a.eval x = .agg (Dn.enc m).toArray) (hy : a.eval y = .agg (Dn.enc n).toArray) : Rn Tryz.prog a w (.binOp .neq 52 x y u) ty (.bool (!decide (m = n))) :=
  Yd 2 (by kernel_rfl) (fun w=>eq_52 _ m n w) rfl hx hy
theorem IE (dd : Nat) (x y : Ct) (w : World) : (Op.equalIn (dd + 2) 77 (.agg (Ct.enc x).toArray) (.agg (Ct.enc y).toArray)).run Tryz.prog w = .ok (decide (x = y)) w:=by
  refine Qm (dd:=dd + 1) (fs:=(Tryz.prog.fieldsOf 77).toList) (by kernel_rfl) rfl (by kernel_rfl) (?_ : _ = Result.ok (decide (x.race_ = y.race_) && (decide (x.who_ = y.who_) && true)) w) (by cases x; cases y; simp [Bool.decide_and])
  simp only [Program.fieldsOf,Tryz.underlying77]
  exact (Kk (by decide) (Ev Tryz.isAgg9 rfl) (Ev Tryz.isAgg9 rfl) (Ko Tryz.underlying9) (Kk (by decide) (Ev Tryz.isAgg9 rfl) (Ev Tryz.isAgg9 rfl) (Ko Tryz.underlying9) Yb))
theorem rn_eql_77 {a : Act} {w : World} {x y : Operand} {u ty : TypeId} {m n : Ct} (hx : a.eval x = .agg (Ct.enc m).toArray) (hy : a.eval y = .agg (Ct.enc n).toArray) : Rn Tryz.prog a w (.binOp .eql 77 x y u) ty (.bool (decide (m = n))) :=
  Yc 2 (by kernel_rfl) (fun w=>IE _ m n w) rfl hx hy
theorem rn_neq_77 {a : Act} {w : World} {x y : Operand} {u ty : TypeId} {m n : Ct} (hx : a.eval x = .agg (Ct.enc m).toArray) (hy : a.eval y = .agg (Ct.enc n).toArray) : Rn Tryz.prog a w (.binOp .neq 77 x y u) ty (.bool (!decide (m = n))) :=
  Yd 2 (by kernel_rfl) (fun w=>IE _ m n w) rfl hx hy
theorem eq_94 (dd : Nat) (x y : Hi) (w : World) : (Op.equalIn (dd + 2) 94 (.agg (Hi.enc x).toArray) (.agg (Hi.enc y).toArray)).run Tryz.prog w = .ok (decide (x = y)) w:=by
  refine Qm (dd:=dd + 1) (fs:=(Tryz.prog.fieldsOf 94).toList) (by kernel_rfl) rfl (by kernel_rfl) (?_ : _ = Result.ok (decide (x.At = y.At) && (decide (x.Kind = y.Kind) && (decide (x.Id = y.Id) && (decide (x.Who = y.Who) && (decide (x.Club = y.Club) && (decide (x.Race = y.Race) && (decide (x.Age = y.Age) && (decide (x.Time = y.Time) && true)))))))) w) (by cases x; cases y; simp [Bool.decide_and])
  simp only [Program.fieldsOf,Tryz.underlying94]
  exact (Kk (by decide) (Ev Tryz.isAgg3 rfl) (Ev Tryz.isAgg3 rfl) (Ov Tryz.underlying3) (Kk (by decide) (Ev Tryz.isAgg3 rfl) (Ev Tryz.isAgg3 rfl) (Ov Tryz.underlying3) (Kk (by decide) (Ev Tryz.isAgg9 rfl) (Ev Tryz.isAgg9 rfl) (Ko Tryz.underlying9) (Kk (by decide) (Ev Tryz.isAgg9 rfl) (Ev Tryz.isAgg9 rfl) (Ko Tryz.underlying9) (Kk (by decide) (Ev Tryz.isAgg9 rfl) (Ev Tryz.isAgg9 rfl) (Ko Tryz.underlying9) (Kk (by decide) (Ev Tryz.isAgg9 rfl) (Ev Tryz.isAgg9 rfl) (Ko Tryz.underlying9) (Kk (by decide) (Ev Tryz.isAgg3 rfl) (Ev Tryz.isAgg3 rfl) (Ov Tryz.underlying3) (Kk (by decide) (Ev Tryz.isAgg3 rfl) (Ev Tryz.isAgg3 rfl) (Ov Tryz.underlying3) Yb))))))))
theorem rn_eql_94 {a : Act} {w : World} {x y : Operand} {u ty : TypeId} {m n : Hi} (hx : a.eval x = .agg (Hi.enc m).toArray) (hy : a.eval y = .agg (Hi.enc n).toArray) : Rn Tryz.prog a w (.binOp .eql 94 x y u) ty (.bool (decide (m = n))) :=
  Yc 2 (by kernel_rfl) (fun w=>eq_94 _ m n w) rfl hx hy
theorem GQ {a : Act} {w : World} {x y : Operand} {u ty : TypeId} {m n : Hi} (hx : a.eval x = .agg (Hi.enc m).toArray) (hy : a.eval y = .agg (Hi.enc n).toArray) : Rn Tryz.prog a w (.binOp .neq 94 x y u) ty (.bool (!decide (m = n))) :=
  Yd 2 (by kernel_rfl) (fun w=>eq_94 _ m n w) rfl hx hy
theorem Yl : GH Tryz.prog 77 (fun x=>Value.agg (Ct.enc x).toArray) :=
  HS 2 rfl Tryz.underlying77 (fun em x w=>chk_agg Tryz.underlying77 (by
    intro f hf _
    simp only [List.mem_cons,List.not_mem_nil,or_false] at hf
    rcases hf with rfl | rfl
    · exact ⟨_,fun w=>Ev Tryz.isAgg9 rfl,fun w=>EL Tryz.underlying9⟩
    · exact ⟨_,fun w=>Ev Tryz.isAgg9 rfl,fun w=>EL Tryz.underlying9⟩)) IE (fun x=>by simp [Instr.sameBits,Ct.enc,GJ])
theorem bt_25 : Uv Tryz.prog 25 (.agg #[.slice none 0 0,iV 0]) [(0,1),(1,1)]:=⟨_,Tryz.underlying25,Tryz.zeroValue25,fun _=>by kernel_rfl⟩
theorem bt_27 : Uv Tryz.prog 27 (.agg #[.slice none 0 0,iV 0,iV 0]) [(0,1),(1,1),(2,1)]:=⟨_,Tryz.underlying27,Tryz.zeroValue27,fun _=>by kernel_rfl⟩
theorem IF : Uv Tryz.prog 39 (.agg #[iV 0,iV 0]) [(0,1),(1,1)]:=⟨_,Tryz.underlying39,Tryz.zeroValue39,fun _=>by kernel_rfl⟩
theorem bt_41 : Uv Tryz.prog 41 (.agg #[sV Cy,iV 0,iV 0]) [(0,1),(1,2)]:=⟨_,Tryz.underlying41,Tryz.zeroValue41,fun _=>by kernel_rfl⟩
theorem bt_44 : Uv Tryz.prog 44 (.agg #[sV Cy,iV 0]) [(0,1),(1,1)]:=⟨_,Tryz.underlying44,Tryz.zeroValue44,fun _=>by kernel_rfl⟩
theorem bt_49 : Uv Tryz.prog 49 (.agg #[sV Cy,sV Cy,sV Cy,iV 0,bV false]) [(0,1),(1,1),(2,1),(3,1),(4,1)]:=⟨_,Tryz.underlying49,Tryz.zeroValue49,fun _=>by kernel_rfl⟩
theorem bt_52 : Uv Tryz.prog 52 (.agg #[sV Cy,sV Cy,iV 0]) [(0,1),(1,1),(2,1)]:=⟨_,Tryz.underlying52,Tryz.zeroValue52,fun _=>by kernel_rfl⟩
theorem bt_66 : Uv Tryz.prog 66 (.agg #[sV Cy,sV Cy,sV Cy,iV 0,bV false,iV 0,iV 0]) [(0,5),(5,2)]:=⟨_,Tryz.underlying66,Tryz.zeroValue66,fun _=>by kernel_rfl⟩
theorem IG : Uv Tryz.prog 77 (.agg #[sV Cy,sV Cy]) [(0,1),(1,1)]:=⟨_,Tryz.underlying77,Tryz.zeroValue77,fun _=>by kernel_rfl⟩
theorem bt_82 : Uv Tryz.prog 82 (.agg #[iV 0,iV 0,iV 0]) [(0,1),(1,1),(2,1)]:=⟨_,Tryz.underlying82,Tryz.zeroValue82,fun _=>by kernel_rfl⟩
theorem bt_85 : Uv Tryz.prog 85 (.agg #[sV Cy,iV 0,iV 0,iV 0,iV 0]) [(0,1),(1,1),(2,1),(3,1),(4,1)]:=⟨_,Tryz.underlying85,Tryz.zeroValue85,fun _=>by kernel_rfl⟩
theorem bt_91 : Uv Tryz.prog 91 (.agg #[sV Cy,sV Cy,.slice none 0 0,iV 0,iV 0]) [(0,1),(1,1),(2,1),(3,1),(4,1)]:=⟨_,Tryz.underlying91,Tryz.zeroValue91,fun _=>by kernel_rfl⟩
theorem bt_94 : Uv Tryz.prog 94 (.agg #[iV 0,iV 0,sV Cy,sV Cy,sV Cy,sV Cy,iV 0,iV 0]) [(0,1),(1,1),(2,1),(3,1),(4,1),(5,1),(6,1),(7,1)]:=⟨_,Tryz.underlying94,Tryz.zeroValue94,fun _=>by kernel_rfl⟩
theorem bt_148 : Uv Tryz.prog 148 (.agg #[iV 0,iV 0]) [(0,1),(1,1)]:=⟨_,Tryz.underlying148,Tryz.zeroValue148,fun _=>by kernel_rfl⟩
theorem bt_150 : Uv Tryz.prog 150 (.agg #[sV Cy,iV 0,iV 0,iV 0]) [(0,1),(1,1),(2,2)]:=⟨_,Tryz.underlying150,Tryz.zeroValue150,fun _=>by kernel_rfl⟩
end Go.Proofs.YtfdcgchgkojfiaaGreatDoor
